/- Texts of this proof, joined in their build order: G61 G62 G64 G65 G66 Law13 Lib2 RSec G25 Law5 SV Best G148 SuAt BSp BSup G54 Law11 Num G50 Law10 DiskP. -/
import Derived.Test.YtlopmffdebhpfaaK13a
import Derived.Test.YtlopmffdebhpfaaK13c
import Derived.Test.YtlopmffdebhpfaaK13b
import Derived.Lib.SliceRun
/-! ## G61 -/
namespace Go.Proofs.Ytlopmffdebhpfaa.G
open Go.RowKit Go.Proofs.YtlopmffdebhpfaaW.PrintWords Go.Proofs.YtlopmffdebhpfaaW.PrintLast Go.Proofs.YtlopmffdebhpfaaW.PrintMore
attribute [local go_sem] max2_int min2_int max_two min_two max_three min_three max_four min_four
set_option linter.unusedVariables false
set_option linter.unusedSimpArgs false

/-! ### spec_FreeList: function 61 -/
mutual
def spec_FreeList.l0 : Nat → List Int → List Int → List Bool → Int → Int → List (List Int) → Option (List Int × List Int × Bool)
  | 0, _, _, _, _, _, _ => none
  | k + 1, x7, x8, x10, x11, x12, x930000 => if x12 = 0 then (some (x7, x8, true)) else ((spec_l2View_page.f k x930000 x12).bind fun bt934 => (if bt934.2.2 = true then (if bt934.1 = 4 then (if 0 ≤ x12 then (if x12 < (x10.length : Int) then (if rdOf false x10 x12 = true then (spec_FreeList.j1 k x7 x8 x10 x11 x12 bt934.2.1 true x930000) else (if (bt934.2.1.length : Int) < 4 then (spec_FreeList.j1 k x7 x8 x10 x11 x12 bt934.2.1 true x930000) else (spec_FreeList.j1 k x7 x8 x10 x11 x12 bt934.2.1 (((bt934.2.1.length : Int) % 4) != 0) x930000))) else (none)) else (none)) else (spec_FreeList.j1 k x7 x8 x10 x11 x12 bt934.2.1 true x930000)) else (spec_FreeList.j1 k x7 x8 x10 x11 x12 bt934.2.1 true x930000)))
def spec_FreeList.j1 : Nat → List Int → List Int → List Bool → Int → Int → List Int → Bool → List (List Int) → Option (List Int × List Int × Bool)
  | 0, _, _, _, _, _, _, _, _ => none
  | k + 1, x7, x8, x10, x11, x12, x14, x64, x930000 => if x64 = true then (some ((([] : List Int)), (([] : List Int)), false)) else (if 0 ≤ x12 then (if x12 < (x10.length : Int) then (if x8.length < 17592186044416 then (spec_FreeList.l1 k x7 (x8 ++ [x12]) (x10.set (x12 : Int).toNat true) x11 x14 4 x930000) else (none)) else (none)) else (none))
def spec_FreeList.l1 : Nat → List Int → List Int → List Bool → Int → List Int → Int → List (List Int) → Option (List Int × List Int × Bool)
  | 0, _, _, _, _, _, _, _ => none
  | k + 1, x7, x8, x10, x11, x14, x16, x930000 => if x16 < (x14.length : Int) then (if 0 ≤ x16 then (if x16 ≤ (wrap64 (x16 + 4)) then (if (wrap64 (x16 + 4)) ≤ (x14.length : Int) then ((spec_l2Low.f k ((x14.take ((wrap64 (x16 + 4)) : Int).toNat).drop (x16 : Int).toNat)).bind fun t955 => (if (x7.length : Int) > 0 then (if t955 ≤ x11 then (some ((([] : List Int)), (([] : List Int)), false)) else (if x7.length < 17592186044416 then (spec_FreeList.l1 k (x7 ++ [t955]) x8 x10 t955 x14 (wrap64 (x16 + 4)) x930000) else (none))) else (if x7.length < 17592186044416 then (spec_FreeList.l1 k (x7 ++ [t955]) x8 x10 t955 x14 (wrap64 (x16 + 4)) x930000) else (none)))) else (none)) else (none)) else (none)) else (if 4 ≤ (x14.length : Int) then ((spec_l2Low.f k (x14.take 4)).bind fun t973 => (spec_FreeList.l0 k x7 x8 x10 x11 t973 x930000)) else (none))
end
def spec_FreeList.f (k : Nat) (l0_0 : List (List Int)) (l0_1 : List (S185)) (a1_0 : Int) (a1_1 : Int) (a1_2 : Int) (a1_3 : Int) : Option (List Int × List Int × Bool) := (some (([] : List Int) : List Int)).bind fun y919 => ((some (([] : List Int) : List Int)).bind fun y922 => ((spec_DiskOk.f k l0_0 l0_1).bind fun t925 => (if t925 = true then ((spec_l1Now.f k l0_0 l0_1).bind fun t926 => ((spec_l2Pages.f l0_0 l0_1).bind fun t930 => (if 0 ≤ t930 then (if (t930 : Int).toNat ≤ 281474976710656 then (spec_FreeList.l0 k y919 y922 (List.replicate (t930 : Int).toNat false) 0 a1_3 t926) else (none)) else (none)))) else (some (y919, y922, false)))))
set_option maxHeartbeats 8000000 in
set_option maxRecDepth 100000 in
theorem spec_FreeList.calls (k : Nat) (A0_0 : Option Addr) (c0_0 : Nat) (l0_0 : List (List Int)) (A0_1 : Option Addr) (c0_1 : Nat) (l0_1 : List (S185)) (a1_0 : Int) (a1_1 : Int) (a1_2 : Int) (a1_3 : Int) (r1 : List Int) (r2 : List Int) (r3 : Bool) (w : World) (hr0_0 : Kd.C (Kd.slice 5 (Kd.int .u8)) w A0_0 l0_0.length l0_0) (hc0_0 : l0_0.length ≤ c0_0) (hr0_1 : Kd.C k185 w A0_1 l0_1.length l0_1) (hc0_1 : l0_1.length ≤ c0_1) (h : spec_FreeList.f k l0_0 l0_1 a1_0 a1_1 a1_2 a1_3 = some (r1, r2, r3)) :
    Calls Try.prog 61 #[.agg #[.slice A0_0 l0_0.length c0_0, .slice A0_1 l0_1.length c0_1], .agg #[.int .i64 a1_0, .int .i64 a1_1, .int .i64 a1_2, .int .i64 a1_3]] w fun e w' => ∃ v0_ v1_ : Value, e = .returned (.tuple #[v0_, v1_, .bool r3]) ∧ Kd.R (Kd.int .i64) 3 w' w.heap.size (fun k_ => some k_ ≠ (v1_ : Value).ownBlock) v0_ r1 ∧ Kd.R (Kd.int .i64) 3 w' w.heap.size (fun k_ => some k_ ≠ (v0_ : Value).ownBlock) v1_ r2 ∧ Below w.heap.size w w' := by
  have hu44 := Try.underlying44
  have hu81 := Try.underlying81
  have hu163 := Try.underlying163
  have HR0_0 := Aside0.mk hr0_0
  have HC0_0 := Aside0.mk hc0_0
  clear hr0_0 hc0_0
  have HR0_1 := Aside0.mk hr0_1
  have HC0_1 := Aside0.mk hc0_1
  clear hr0_1 hc0_1
  have HB := Aside0.mk (Below.refl w.heap.size w)
  have H : ((some (([] : List Int) : List Int)).bind fun y919 => ((some (([] : List Int) : List Int)).bind fun y922 => ((spec_DiskOk.f k l0_0 l0_1).bind fun t925 => (if t925 = true then ((spec_l1Now.f k l0_0 l0_1).bind fun t926 => ((spec_l2Pages.f l0_0 l0_1).bind fun t930 => (if 0 ≤ t930 then (if (t930 : Int).toNat ≤ 281474976710656 then (spec_FreeList.l0 k y919 y922 (List.replicate (t930 : Int).toNat false) 0 a1_3 t926) else (none)) else (none)))) else (some (y919, y922, false)))))) = some (r1, r2, r3) := h
  clear h
  obtain ⟨y919, hy919⟩ : ∃ y_ : List Int, y_ = (([] : List Int)) := ⟨_, rfl⟩
  replace H : ((some (([] : List Int) : List Int)).bind fun y922 => ((spec_DiskOk.f k l0_0 l0_1).bind fun t925 => (if t925 = true then ((spec_l1Now.f k l0_0 l0_1).bind fun t926 => ((spec_l2Pages.f l0_0 l0_1).bind fun t930 => (if 0 ≤ t930 then (if (t930 : Int).toNat ≤ 281474976710656 then (spec_FreeList.l0 k y919 y922 (List.replicate (t930 : Int).toNat false) 0 a1_3 t926) else (none)) else (none)))) else (some (y919, y922, false))))) = some (r1, r2, r3) := by first | (rw [hy919]; with_reducible exact H) | (have H2_ := (Option.bind_some _ _).symm.trans H; rw [hy919]; with_reducible exact H2_) | (have H2_ := (Option.bind_some _ _).symm.trans H; with_reducible exact H2_) | with_reducible exact H | (rw [hy919]; exact H) | exact H
  have Ny919 := Aside0.mk hy919
  clear hy919
  obtain ⟨y922, hy922⟩ : ∃ y_ : List Int, y_ = (([] : List Int)) := ⟨_, rfl⟩
  replace H : ((spec_DiskOk.f k l0_0 l0_1).bind fun t925 => (if t925 = true then ((spec_l1Now.f k l0_0 l0_1).bind fun t926 => ((spec_l2Pages.f l0_0 l0_1).bind fun t930 => (if 0 ≤ t930 then (if (t930 : Int).toNat ≤ 281474976710656 then (spec_FreeList.l0 k y919 y922 (List.replicate (t930 : Int).toNat false) 0 a1_3 t926) else (none)) else (none)))) else (some (y919, y922, false)))) = some (r1, r2, r3) := by first | (rw [hy922]; with_reducible exact H) | (have H2_ := (Option.bind_some _ _).symm.trans H; rw [hy922]; with_reducible exact H2_) | (have H2_ := (Option.bind_some _ _).symm.trans H; with_reducible exact H2_) | with_reducible exact H | (rw [hy922]; exact H) | exact H
  have Ny922 := Aside0.mk hy922
  clear hy922
  replace H := Option.bind_eq_some_iff.mp H
  obtain ⟨t925, A30, H⟩ := H
  replace H : (if t925 = true then ((spec_l1Now.f k l0_0 l0_1).bind fun t926 => ((spec_l2Pages.f l0_0 l0_1).bind fun t930 => (if 0 ≤ t930 then (if (t930 : Int).toNat ≤ 281474976710656 then (spec_FreeList.l0 k y919 y922 (List.replicate (t930 : Int).toNat false) 0 a1_3 t926) else (none)) else (none)))) else (some (y919, y922, false))) = some (r1, r2, r3) := H
  have A3 := Aside0.mk A30
  clear A30
  by_cases c4 : t925 = true
  · subst c4
    have H1 : ((spec_l1Now.f k l0_0 l0_1).bind fun t926 => ((spec_l2Pages.f l0_0 l0_1).bind fun t930 => (if 0 ≤ t930 then (if (t930 : Int).toNat ≤ 281474976710656 then (spec_FreeList.l0 k y919 y922 (List.replicate (t930 : Int).toNat false) 0 a1_3 t926) else (none)) else (none)))) = some (r1, r2, r3) := by rw [if_pos rfl] at H; exact H
    clear H
    have H := H1
    clear H1
    replace H := Option.bind_eq_some_iff.mp H
    obtain ⟨t926, A50, H⟩ := H
    replace H : ((spec_l2Pages.f l0_0 l0_1).bind fun t930 => (if 0 ≤ t930 then (if (t930 : Int).toNat ≤ 281474976710656 then (spec_FreeList.l0 k y919 y922 (List.replicate (t930 : Int).toNat false) 0 a1_3 t926) else (none)) else (none))) = some (r1, r2, r3) := H
    have A5 := Aside0.mk A50
    clear A50
    replace H := Option.bind_eq_some_iff.mp H
    obtain ⟨t930, A60, H⟩ := H
    replace H : (if 0 ≤ t930 then (if (t930 : Int).toNat ≤ 281474976710656 then (spec_FreeList.l0 k y919 y922 (List.replicate (t930 : Int).toNat false) 0 a1_3 t926) else (none)) else (none)) = some (r1, r2, r3) := H
    have A6 := Aside0.mk A60
    clear A60
    by_cases c7 : 0 ≤ t930
    · rw [if_pos c7] at H
      have c7b0 := eq_true c7
      have c7b1 : decide (0 ≤ t930) = true := decide_eq_true c7
      clear c7
      by_cases c8 : (t930 : Int).toNat ≤ 281474976710656
      · rw [if_pos c8] at H
        have c8b0 := eq_true c8
        have c8b1 : decide ((t930 : Int).toNat ≤ 281474976710656) = true := decide_eq_true c8
        clear c8
        obtain ⟨y931, hy931⟩ : ∃ y_ : List Bool, y_ = (List.replicate (t930 : Int).toNat false) := ⟨_, rfl⟩
        replace H : (spec_FreeList.l0 k y919 y922 y931 0 a1_3 t926) = some (r1, r2, r3) := by first | (rw [hy931]; with_reducible exact H) | (have H2_ := (Option.bind_some _ _).symm.trans H; rw [hy931]; with_reducible exact H2_) | (have H2_ := (Option.bind_some _ _).symm.trans H; with_reducible exact H2_) | with_reducible exact H | (rw [hy931]; exact H) | exact H
        have Ny931 := Aside0.mk hy931
        clear hy931
        have H' := Aside0.mk H
        clear H
        go_enter Try.func61, Try.ntmps61
        go_wp2_with (first | ((with_reducible refine gate_dst (N := 2) rfl ?_); (try (refine gate_guard (by rfl) ?_; dsimp only)); refine box_event ?hg (N := 2) ?hd (cs := #[.slice A0_0 l0_0.length c0_0, .slice A0_1 l0_1.length c0_1]) (t := 44) ?hr ?_; (case hd => rfl); (case hg => rfl); (case hr => first | (go_simp; done) | (go_simp; rfl)); intro gb917 hg w9 hbox hb; have n0_ := Aside0.mk (below_step (by repeat (first | (with_reducible first | exact HB.out | apply below_alloc | apply pw_below_drewN | apply below_drew1) | exact HB.out)) hb); have n1_ := Aside0.mk (hbox); have n2_ := Aside0.mk ((by rw [hg]; exact (below_size (by repeat (first | (with_reducible first | exact HB.out | apply below_alloc | apply pw_below_drewN | apply below_drew1) | exact HB.out))) : w.heap.size ≤ gb917)); have n3_ := Aside0.mk ((by rw [hg]; exact (below_size (by repeat (first | (with_reducible first | exact HB.out | apply below_alloc | apply pw_below_drewN | apply below_drew1) | exact HB.out))) : w.heap.size ≤ gb917)); clear HB; have HB := n0_; have BK917 := n1_; have GW917 := n2_; have GE917 := n3_; clear n0_ n1_ n2_ n3_; clear hb hbox hg) | ((with_reducible refine gate_dst (N := 3) rfl ?_); (try (refine gate_guard (by rfl) ?_; dsimp only)); refine box_event ?hg (N := 3) ?hd (cs := #[.int .i64 a1_0, .int .i64 a1_1, .int .i64 a1_2, .int .i64 a1_3]) (t := 81) ?hr ?_; (case hd => rfl); (case hg => rfl); (case hr => first | (go_simp; done) | (go_simp; rfl)); intro gb918 hg w10 hbox hb; have n0_ := Aside0.mk (blk_below (g := gb917) (o := .cells #[.slice A0_0 l0_0.length c0_0, .slice A0_1 l0_1.length c0_1] 44 (0, 0)) (by (with_reducible repeat (first | refine blk_drewN ?_ _ | refine blk_drew ?_ | refine blk_alloc ?_ _)); exact BK917.out) hb); have n1_ := Aside0.mk (below_step (by repeat (first | (with_reducible first | exact HB.out | apply below_alloc | apply pw_below_drewN | apply below_drew1 | refine below_set ?_ GE917.out) | exact HB.out)) hb); have n2_ := Aside0.mk (hbox); have n3_ := Aside0.mk ((by rw [hg]; exact (below_size (by repeat (first | (with_reducible first | exact HB.out | apply below_alloc | apply pw_below_drewN | apply below_drew1 | refine below_set ?_ GE917.out) | exact HB.out))) : w.heap.size ≤ gb918)); have n4_ := Aside0.mk ((by rw [hg]; exact (below_size (by repeat (first | (with_reducible first | exact HB.out | apply below_alloc | apply pw_below_drewN | apply below_drew1 | refine below_set ?_ GE917.out) | exact HB.out))) : w.heap.size ≤ gb918)); have n5_ := Aside0.mk ((by rw [hg]; exact Nat.ne_of_lt (blk_lt (g := gb917) (o := .cells #[.slice A0_0 l0_0.length c0_0, .slice A0_1 l0_1.length c0_1] 44 (0, 0)) (by (with_reducible repeat (first | refine blk_drewN ?_ _ | refine blk_drew ?_ | refine blk_alloc ?_ _)); exact BK917.out)) : gb917 ≠ gb918)); have n6_ := Aside0.mk ((by rw [hg]; exact Nat.ne_of_gt (blk_lt (g := gb917) (o := .cells #[.slice A0_0 l0_0.length c0_0, .slice A0_1 l0_1.length c0_1] 44 (0, 0)) (by (with_reducible repeat (first | refine blk_drewN ?_ _ | refine blk_drew ?_ | refine blk_alloc ?_ _)); exact BK917.out)) : gb918 ≠ gb917)); clear BK917; clear HB; have BK917 := n0_; have HB := n1_; have BK918 := n2_; have GW918 := n3_; have GE918 := n4_; have NB917_918 := n5_; have NB918_917 := n6_; clear n0_ n1_ n2_ n3_ n4_ n5_ n6_; clear hb hbox hg) | ((with_reducible refine gate_dst (N := 18) rfl ?_); (try (refine gate_guard (by rfl) ?_; dsimp only)); refine Kd.R_lit (Kd.int .i64) _ 3 ?hg (N := 18) ?hd (xs := ([] : List Int)) (inner := []) (ok := fun _ => True) (okp := fun _ => True) ?hr ?hp (fun _ hk => hk) trivial (Below.refl _ _) (Nat.le_refl _) (by simp) ?_; (case hd => rfl); (case hg => rfl); (case hr => first | (go_simp; done) | (go_simp; rfl)); (case hp => exact (Reps.none _ _)); intro v920 w11 ho12 hb hg_ hnew_; clear hg_ hnew_; (first | rw [← Ny919.out] at ho12 | (simp only [Int.reduceToNat] at ho12; rw [← Ny919.out] at ho12)); have n0_ := Aside0.mk (Kd.R_lower ho12 (below_size (by repeat (first | (with_reducible first | exact HB.out | apply below_alloc | apply pw_below_drewN | apply below_drew1 | refine below_set ?_ GE917.out | refine below_set ?_ GE918.out) | exact HB.out)))); have n1_ := Aside0.mk (blk_below (g := gb917) (o := .cells #[.slice A0_0 l0_0.length c0_0, .slice A0_1 l0_1.length c0_1] 44 (0, 0)) (by (with_reducible repeat (first | refine blk_drewN ?_ _ | refine blk_drew ?_ | refine blk_alloc ?_ _)); exact BK917.out) hb); have n2_ := Aside0.mk (blk_below (g := gb918) (o := .cells #[.int .i64 a1_0, .int .i64 a1_1, .int .i64 a1_2, .int .i64 a1_3] 81 (0, 0)) (by (with_reducible repeat (first | refine blk_drewN ?_ _ | refine blk_drew ?_ | refine blk_alloc ?_ _)); exact BK918.out) hb); have n3_ := Aside0.mk (below_step (by repeat (first | (with_reducible first | exact HB.out | apply below_alloc | apply pw_below_drewN | apply below_drew1 | refine below_set ?_ GE917.out | refine below_set ?_ GE918.out) | exact HB.out)) hb); clear BK917; clear BK918; clear HB; have HO921 := n0_; have BK917 := n1_; have BK918 := n2_; have HB := n3_; clear n0_ n1_ n2_ n3_; clear hb ho12) | ((with_reducible refine gate_dst (N := 19) rfl ?_); (try (refine gate_guard (by rfl) ?_; dsimp only)); refine Kd.R_lit (Kd.int .i64) _ 3 ?hg (N := 19) ?hd (xs := ([] : List Int)) (inner := []) (ok := fun _ => True) (okp := fun _ => True) ?hr ?hp (fun _ hk => hk) trivial (Below.refl _ _) (Nat.le_refl _) (by simp) ?_; (case hd => rfl); (case hg => rfl); (case hr => first | (go_simp; done) | (go_simp; rfl)); (case hp => exact (Reps.none _ _)); intro v923 w13 ho14 hb hg_ hnew_; clear hg_ hnew_; (first | rw [← Ny922.out] at ho14 | (simp only [Int.reduceToNat] at ho14; rw [← Ny922.out] at ho14)); have n0_ := Aside0.mk (Kd.R_elder' (by (with_reducible repeat (first | apply Kd.R_alloc | apply Kd.R_drewN | apply Kd.R_drew)); exact HO921.out) (Kd.R_base ho14) hb); have n1_ := Aside0.mk (Kd.R_lower (Kd.R_new' ho14 (Kd.R_lt (by (with_reducible repeat (first | apply Kd.R_alloc | apply Kd.R_drewN | apply Kd.R_drew)); exact HO921.out))) (below_size (by repeat (first | (with_reducible first | exact HB.out | apply below_alloc | apply pw_below_drewN | apply below_drew1 | refine below_set ?_ GE917.out | refine below_set ?_ GE918.out) | exact HB.out)))); have n2_ := Aside0.mk (blk_below (g := gb917) (o := .cells #[.slice A0_0 l0_0.length c0_0, .slice A0_1 l0_1.length c0_1] 44 (0, 0)) (by (with_reducible repeat (first | refine blk_drewN ?_ _ | refine blk_drew ?_ | refine blk_alloc ?_ _)); exact BK917.out) hb); have n3_ := Aside0.mk (blk_below (g := gb918) (o := .cells #[.int .i64 a1_0, .int .i64 a1_1, .int .i64 a1_2, .int .i64 a1_3] 81 (0, 0)) (by (with_reducible repeat (first | refine blk_drewN ?_ _ | refine blk_drew ?_ | refine blk_alloc ?_ _)); exact BK918.out) hb); have n4_ := Aside0.mk (below_step (by repeat (first | (with_reducible first | exact HB.out | apply below_alloc | apply pw_below_drewN | apply below_drew1 | refine below_set ?_ GE917.out | refine below_set ?_ GE918.out) | exact HB.out)) hb); clear HO921; clear BK917; clear BK918; clear HB; have HO921 := n0_; have HO924 := n1_; have BK917 := n2_; have BK918 := n3_; have HB := n4_; clear n0_ n1_ n2_ n3_ n4_; clear hb ho14; have hnb15 := NB917_918.out; have hnc15 := NB918_917.out; have hcz16_0 : w13.cell? ⟨gb917, 0, none⟩ = some (.slice A0_0 l0_0.length c0_0) := (blk_cell BK917.out 0).trans rfl; have hcz16_1 : w13.cell? ⟨gb917, 1, none⟩ = some (.slice A0_1 l0_1.length c0_1) := (blk_cell BK917.out 1).trans rfl; have hfz16_0 := blk_frozen BK917.out 0; have hfz16_1 := blk_frozen BK917.out 1) | ((with_reducible refine gate_callee (f := 83) rfl ?_); refine goesL_ (some 21) rfl rfl Try.func83 (by kernel_rfl) rfl #[.agg #[.slice A0_0 l0_0.length c0_0, .slice A0_1 l0_1.length c0_1]] rfl (by (try simp only [List.map_toArray, List.map_cons, List.map_nil]); first | done | rfl | (simp only [List.length_drop, List.length_take]; rfl)) ?_; (with_reducible refine (spec_DiskOk.calls k _ _ l0_0 _ _ l0_1 true _ ?side1 ?side2 ?side3 ?side4 A3.out).mono ?_); (case side1 => repeat (first | exact (Kd.C_below HR0_0.out HB.out) | (with_reducible refine Kd.C_alloc ?_ _) | (with_reducible refine Kd.C_drewN ?_ _) | (with_reducible refine Kd.C_drew ?_))); (case side2 => exact HC0_0.out); (case side3 => repeat (first | exact (Kd.C_below HR0_1.out HB.out) | (with_reducible refine Kd.C_alloc ?_ _) | (with_reducible refine Kd.C_drewN ?_ _) | (with_reducible refine Kd.C_drew ?_))); (case side4 => exact HC0_1.out); rintro e w17 ⟨rfl, hb⟩; refine ⟨_, rfl, ?_⟩; have n0_ := Aside0.mk (Kd.R_below (by (with_reducible repeat (first | apply Kd.R_alloc | apply Kd.R_drewN | apply Kd.R_drew)); exact HO921.out) hb); have n1_ := Aside0.mk (Kd.R_below (by (with_reducible repeat (first | apply Kd.R_alloc | apply Kd.R_drewN | apply Kd.R_drew)); exact HO924.out) hb); have n2_ := Aside0.mk (blk_below (g := gb917) (o := .cells #[.slice A0_0 l0_0.length c0_0, .slice A0_1 l0_1.length c0_1] 44 (0, 0)) (by (with_reducible repeat (first | refine blk_drewN ?_ _ | refine blk_drew ?_ | refine blk_alloc ?_ _)); exact BK917.out) hb); have n3_ := Aside0.mk (blk_below (g := gb918) (o := .cells #[.int .i64 a1_0, .int .i64 a1_1, .int .i64 a1_2, .int .i64 a1_3] 81 (0, 0)) (by (with_reducible repeat (first | refine blk_drewN ?_ _ | refine blk_drew ?_ | refine blk_alloc ?_ _)); exact BK918.out) hb); have n4_ := Aside0.mk (below_step (by repeat (first | (with_reducible first | exact HB.out | apply below_alloc | apply pw_below_drewN | apply below_drew1 | refine below_set ?_ GE917.out | refine below_set ?_ GE918.out) | exact HB.out)) hb); clear HO921; clear HO924; clear BK917; clear BK918; clear HB; have HO921 := n0_; have HO924 := n1_; have BK917 := n2_; have BK918 := n3_; have HB := n4_; clear n0_ n1_ n2_ n3_ n4_; (try clear hb); (try clear hb2); (try clear hk); (try clear hi); have hcz18_0 : w17.cell? ⟨gb917, 0, none⟩ = some (.slice A0_0 l0_0.length c0_0) := (blk_cell BK917.out 0).trans rfl; have hcz18_1 : w17.cell? ⟨gb917, 1, none⟩ = some (.slice A0_1 l0_1.length c0_1) := (blk_cell BK917.out 1).trans rfl; have hfz18_0 := blk_frozen BK917.out 0; have hfz18_1 := blk_frozen BK917.out 1) | ((with_reducible refine gate_callee (f := 84) rfl ?_); refine goesL_ (some 26) rfl rfl Try.func84 (by kernel_rfl) rfl #[.agg #[.slice A0_0 l0_0.length c0_0, .slice A0_1 l0_1.length c0_1]] rfl (by (try simp only [List.map_toArray, List.map_cons, List.map_nil]); first | done | rfl | (simp only [List.length_drop, List.length_take]; rfl)) ?_; (with_reducible refine (spec_l1Now.calls k (fun k_ => k_ < w.heap.size) _ _ l0_0 (fun k_ => k_ < w.heap.size) _ _ l0_1 t926 _ ?side1 ?side2 A5.out).mono ?_); (case side1 => exact Kd.V_mk HC0_0.out (Kd.F_below (Kd.C_F (Kd.heap_slice 5 (Kd.heap_int .u8)) HR0_0.out) (by repeat (first | (with_reducible first | exact HB.out | apply below_alloc | apply pw_below_drewN | apply below_drew1 | refine below_set ?_ GE917.out | refine below_set ?_ GE918.out) | exact HB.out)))); (case side2 => exact Kd.V_mk HC0_1.out (Kd.F_below (Kd.C_F k185_heap HR0_1.out) (by repeat (first | (with_reducible first | exact HB.out | apply below_alloc | apply pw_below_drewN | apply below_drew1 | refine below_set ?_ GE917.out | refine below_set ?_ GE918.out) | exact HB.out)))); rintro e w19 ⟨v927, rfl, ho0, hb⟩; refine ⟨_, rfl, ?_⟩; have n0_ := Aside0.mk (Kd.R_below (by (with_reducible repeat (first | apply Kd.R_alloc | apply Kd.R_drewN | apply Kd.R_drew)); exact HO921.out) hb); have n1_ := Aside0.mk (Kd.R_below (by (with_reducible repeat (first | apply Kd.R_alloc | apply Kd.R_drewN | apply Kd.R_drew)); exact HO924.out) hb); have n2_ := Aside0.mk (Kd.N_lower (Kd.N_mono (ok' := fun k_ => some k_ ≠ (v920 : Value).ownBlock ∧ some k_ ≠ (v923 : Value).ownBlock ∧ k_ ≠ gb917 ∧ k_ ≠ gb918) ho0 (fun k_ hk_ => ⟨Or.elim hk_ (fun hs_ => Or.elim hs_ (fun hs_ => fun e_ => Nat.not_le.2 hs_ (Kd.R_base HO921.out k_ e_.symm)) (fun hs_ => fun e_ => Nat.not_le.2 hs_ (Kd.R_base HO921.out k_ e_.symm))) (fun hn_ => (Kd.fresh' (Kd.R_lt (by (with_reducible repeat (first | apply Kd.R_alloc | apply Kd.R_drewN | apply Kd.R_drew)); exact HO921.out)) k_ hn_)), Or.elim hk_ (fun hs_ => Or.elim hs_ (fun hs_ => fun e_ => Nat.not_le.2 hs_ (Kd.R_base HO924.out k_ e_.symm)) (fun hs_ => fun e_ => Nat.not_le.2 hs_ (Kd.R_base HO924.out k_ e_.symm))) (fun hn_ => (Kd.fresh' (Kd.R_lt (by (with_reducible repeat (first | apply Kd.R_alloc | apply Kd.R_drewN | apply Kd.R_drew)); exact HO924.out)) k_ hn_)), Or.elim hk_ (fun hs_ => Or.elim hs_ (fun hs_ => fun e_ => Nat.not_le.2 hs_ (by rw [e_]; exact GW917.out)) (fun hs_ => fun e_ => Nat.not_le.2 hs_ (by rw [e_]; exact GW917.out))) (fun hn_ => (Kd.freshB (g := gb917) (o := .cells #[.slice A0_0 l0_0.length c0_0, .slice A0_1 l0_1.length c0_1] 44 (0, 0)) (by (with_reducible repeat (first | refine blk_drewN ?_ _ | refine blk_drew ?_ | refine blk_alloc ?_ _)); exact BK917.out) k_ hn_)), Or.elim hk_ (fun hs_ => Or.elim hs_ (fun hs_ => fun e_ => Nat.not_le.2 hs_ (by rw [e_]; exact GW918.out)) (fun hs_ => fun e_ => Nat.not_le.2 hs_ (by rw [e_]; exact GW918.out))) (fun hn_ => (Kd.freshB (g := gb918) (o := .cells #[.int .i64 a1_0, .int .i64 a1_1, .int .i64 a1_2, .int .i64 a1_3] 81 (0, 0)) (by (with_reducible repeat (first | refine blk_drewN ?_ _ | refine blk_drew ?_ | refine blk_alloc ?_ _)); exact BK918.out) k_ hn_))⟩)) (below_size (by repeat (first | (with_reducible first | exact HB.out | apply below_alloc | apply pw_below_drewN | apply below_drew1 | refine below_set ?_ GE917.out | refine below_set ?_ GE918.out) | exact HB.out)))); have n3_ := Aside0.mk (blk_below (g := gb917) (o := .cells #[.slice A0_0 l0_0.length c0_0, .slice A0_1 l0_1.length c0_1] 44 (0, 0)) (by (with_reducible repeat (first | refine blk_drewN ?_ _ | refine blk_drew ?_ | refine blk_alloc ?_ _)); exact BK917.out) hb); have n4_ := Aside0.mk (blk_below (g := gb918) (o := .cells #[.int .i64 a1_0, .int .i64 a1_1, .int .i64 a1_2, .int .i64 a1_3] 81 (0, 0)) (by (with_reducible repeat (first | refine blk_drewN ?_ _ | refine blk_drew ?_ | refine blk_alloc ?_ _)); exact BK918.out) hb); have n5_ := Aside0.mk (below_step (by repeat (first | (with_reducible first | exact HB.out | apply below_alloc | apply pw_below_drewN | apply below_drew1 | refine below_set ?_ GE917.out | refine below_set ?_ GE918.out) | exact HB.out)) hb); clear HO921; clear HO924; clear BK917; clear BK918; clear HB; have HO921 := n0_; have HO924 := n1_; have HO928 := n2_; have BK917 := n3_; have BK918 := n4_; have HB := n5_; clear n0_ n1_ n2_ n3_ n4_ n5_; (try clear hb); (try clear hb2); (try clear hk); (try clear hi); (try clear ho0); obtain ⟨Ao20, co20, eo20⟩ := Kd.N_slice HO928.out; subst eo20) | ((with_reducible refine gate_dst (N := 9) rfl ?_); (try (refine gate_guard (by rfl) ?_; dsimp only)); refine box_event ?hg (N := 9) ?hd (cs := #[.slice none 0 0]) (t := 163) ?hr ?_; (case hd => rfl); (case hg => rfl); (case hr => first | (go_simp; done) | (go_simp; rfl)); intro gb929 hg w21 hbox hb; have n0_ := Aside0.mk (Kd.R_below (by (with_reducible repeat (first | apply Kd.R_alloc | apply Kd.R_drewN | apply Kd.R_drew)); exact HO921.out) hb); have n1_ := Aside0.mk (Kd.R_below (by (with_reducible repeat (first | apply Kd.R_alloc | apply Kd.R_drewN | apply Kd.R_drew)); exact HO924.out) hb); have n2_ := Aside0.mk (Kd.N_below (Kd.N_elderB (by (with_reducible repeat (first | apply Kd.N_alloc | apply Kd.N_drewN | apply Kd.N_drew)); exact HO928.out) gb929 (Nat.le_of_eq hg.symm)) hb); have n3_ := Aside0.mk (blk_below (g := gb917) (o := .cells #[.slice A0_0 l0_0.length c0_0, .slice A0_1 l0_1.length c0_1] 44 (0, 0)) (by (with_reducible repeat (first | refine blk_drewN ?_ _ | refine blk_drew ?_ | refine blk_alloc ?_ _)); exact BK917.out) hb); have n4_ := Aside0.mk (blk_below (g := gb918) (o := .cells #[.int .i64 a1_0, .int .i64 a1_1, .int .i64 a1_2, .int .i64 a1_3] 81 (0, 0)) (by (with_reducible repeat (first | refine blk_drewN ?_ _ | refine blk_drew ?_ | refine blk_alloc ?_ _)); exact BK918.out) hb); have n5_ := Aside0.mk (below_step (by repeat (first | (with_reducible first | exact HB.out | apply below_alloc | apply pw_below_drewN | apply below_drew1 | refine below_set ?_ GE917.out | refine below_set ?_ GE918.out) | exact HB.out)) hb); have n6_ := Aside0.mk (hbox); have n7_ := Aside0.mk ((by rw [hg]; exact (below_size (by repeat (first | (with_reducible first | exact HB.out | apply below_alloc | apply pw_below_drewN | apply below_drew1 | refine below_set ?_ GE917.out | refine below_set ?_ GE918.out) | exact HB.out))) : w.heap.size ≤ gb929)); have n8_ := Aside0.mk ((by rw [hg]; exact (below_size (by repeat (first | (with_reducible first | exact HB.out | apply below_alloc | apply pw_below_drewN | apply below_drew1 | refine below_set ?_ GE917.out | refine below_set ?_ GE918.out) | exact HB.out))) : w.heap.size ≤ gb929)); have n9_ := Aside0.mk ((by rw [hg]; exact Nat.ne_of_lt (blk_lt (g := gb917) (o := .cells #[.slice A0_0 l0_0.length c0_0, .slice A0_1 l0_1.length c0_1] 44 (0, 0)) (by (with_reducible repeat (first | refine blk_drewN ?_ _ | refine blk_drew ?_ | refine blk_alloc ?_ _)); exact BK917.out)) : gb917 ≠ gb929)); have n10_ := Aside0.mk ((by rw [hg]; exact Nat.ne_of_gt (blk_lt (g := gb917) (o := .cells #[.slice A0_0 l0_0.length c0_0, .slice A0_1 l0_1.length c0_1] 44 (0, 0)) (by (with_reducible repeat (first | refine blk_drewN ?_ _ | refine blk_drew ?_ | refine blk_alloc ?_ _)); exact BK917.out)) : gb929 ≠ gb917)); have n11_ := Aside0.mk ((by rw [hg]; exact Nat.ne_of_lt (blk_lt (g := gb918) (o := .cells #[.int .i64 a1_0, .int .i64 a1_1, .int .i64 a1_2, .int .i64 a1_3] 81 (0, 0)) (by (with_reducible repeat (first | refine blk_drewN ?_ _ | refine blk_drew ?_ | refine blk_alloc ?_ _)); exact BK918.out)) : gb918 ≠ gb929)); have n12_ := Aside0.mk ((by rw [hg]; exact Nat.ne_of_gt (blk_lt (g := gb918) (o := .cells #[.int .i64 a1_0, .int .i64 a1_1, .int .i64 a1_2, .int .i64 a1_3] 81 (0, 0)) (by (with_reducible repeat (first | refine blk_drewN ?_ _ | refine blk_drew ?_ | refine blk_alloc ?_ _)); exact BK918.out)) : gb929 ≠ gb918)); clear HO921; clear HO924; clear HO928; clear BK917; clear BK918; clear HB; have HO921 := n0_; have HO924 := n1_; have HO928 := n2_; have BK917 := n3_; have BK918 := n4_; have HB := n5_; have BK929 := n6_; have GW929 := n7_; have GE929 := n8_; have NB917_929 := n9_; have NB929_917 := n10_; have NB918_929 := n11_; have NB929_918 := n12_; clear n0_ n1_ n2_ n3_ n4_ n5_ n6_ n7_ n8_ n9_ n10_ n11_ n12_; clear hb hbox hg; have hnb22 := NB929_917.out; have hnc22 := NB917_929.out; have hnb23 := NB929_918.out; have hnc23 := NB918_929.out; have hcz24_0 : w21.cell? ⟨gb929, 0, none⟩ = some (.slice none 0 0) := (blk_cell BK929.out 0).trans rfl; have hfz24_0 := blk_frozen BK929.out 0; have hcz25_0 : w21.cell? ⟨gb917, 0, none⟩ = some (.slice A0_0 l0_0.length c0_0) := (blk_cell BK917.out 0).trans rfl; have hcz25_1 : w21.cell? ⟨gb917, 1, none⟩ = some (.slice A0_1 l0_1.length c0_1) := (blk_cell BK917.out 1).trans rfl; have hfz25_0 := blk_frozen BK917.out 0; have hfz25_1 := blk_frozen BK917.out 1) | ((with_reducible refine gate_callee (f := 128) rfl ?_); refine goesL_ (some 29) rfl rfl Try.func128 (by kernel_rfl) rfl #[.agg #[.slice A0_0 l0_0.length c0_0, .slice A0_1 l0_1.length c0_1]] rfl (by (try simp only [List.map_toArray, List.map_cons, List.map_nil]); first | done | rfl | (simp only [List.length_drop, List.length_take]; rfl)) ?_; (with_reducible refine (spec_l2Pages.calls _ _ l0_0 _ _ l0_1 t930 _ ?side1 ?side2 ?side3 ?side4 A6.out).mono ?_); (case side1 => exact Kd.C_below HR0_0.out (by repeat (first | (with_reducible first | exact HB.out | apply below_alloc | apply pw_below_drewN | apply below_drew1 | refine below_set ?_ GE917.out | refine below_set ?_ GE918.out | refine below_set ?_ GE929.out) | exact HB.out))); (case side2 => exact HC0_0.out); (case side3 => exact Kd.C_below HR0_1.out (by repeat (first | (with_reducible first | exact HB.out | apply below_alloc | apply pw_below_drewN | apply below_drew1 | refine below_set ?_ GE917.out | refine below_set ?_ GE918.out | refine below_set ?_ GE929.out) | exact HB.out))); (case side4 => exact HC0_1.out); rintro e w26 ⟨rfl, hb⟩; refine ⟨_, rfl, ?_⟩; have n0_ := Aside0.mk (Kd.R_below (by (with_reducible repeat (first | apply Kd.R_alloc | apply Kd.R_drewN | apply Kd.R_drew)); exact (Kd.R_mono (Kd.R_far (p := ⟨gb929, 0, none⟩) (Kd.R_types HO921.out BK929.out (by decide)) (fun _ hk => hk.2) (.slice Ao20 t926.length co20)) (fun _ h_ => h_.1))) hb); have n1_ := Aside0.mk (Kd.R_below (by (with_reducible repeat (first | apply Kd.R_alloc | apply Kd.R_drewN | apply Kd.R_drew)); exact (Kd.R_mono (Kd.R_far (p := ⟨gb929, 0, none⟩) (Kd.R_types HO924.out BK929.out (by decide)) (fun _ hk => hk.2) (.slice Ao20 t926.length co20)) (fun _ h_ => h_.1))) hb); have n2_ := Aside0.mk (Kd.N_below (by (with_reducible repeat (first | apply Kd.N_alloc | apply Kd.N_drewN | apply Kd.N_drew)); exact (Kd.N_mono (Kd.N_far (p := ⟨gb929, 0, none⟩) (Kd.N_mono HO928.out (fun k_ hk => (⟨hk, hk.2⟩ : _ ∧ k_ ≠ gb929))) (fun _ hk => hk.2) (.slice Ao20 t926.length co20)) (fun _ h_ => h_.1))) hb); have n3_ := Aside0.mk (blk_below (g := gb917) (o := .cells #[.slice A0_0 l0_0.length c0_0, .slice A0_1 l0_1.length c0_1] 44 (0, 0)) (by (with_reducible repeat (first | refine blk_drewN ?_ _ | refine blk_drew ?_ | refine blk_alloc ?_ _)); refine blk_far ?_ NB917_929.out _; (with_reducible repeat (first | refine blk_drewN ?_ _ | refine blk_drew ?_ | refine blk_alloc ?_ _)); exact BK917.out) hb); have n4_ := Aside0.mk (blk_below (g := gb918) (o := .cells #[.int .i64 a1_0, .int .i64 a1_1, .int .i64 a1_2, .int .i64 a1_3] 81 (0, 0)) (by (with_reducible repeat (first | refine blk_drewN ?_ _ | refine blk_drew ?_ | refine blk_alloc ?_ _)); refine blk_far ?_ NB918_929.out _; (with_reducible repeat (first | refine blk_drewN ?_ _ | refine blk_drew ?_ | refine blk_alloc ?_ _)); exact BK918.out) hb); have n5_ := Aside0.mk (blk_below (g := gb929) (o := .cells #[.slice Ao20 t926.length co20] 163 (0, 0)) (by (with_reducible repeat (first | refine blk_drewN ?_ _ | refine blk_drew ?_ | refine blk_alloc ?_ _)); refine blk_put (cs := #[.slice none 0 0]) ?_ 0 _ rfl; (with_reducible repeat (first | refine blk_drewN ?_ _ | refine blk_drew ?_ | refine blk_alloc ?_ _)); exact BK929.out) hb); have n6_ := Aside0.mk (below_step (by repeat (first | (with_reducible first | exact HB.out | apply below_alloc | apply pw_below_drewN | apply below_drew1 | refine below_set ?_ GE917.out | refine below_set ?_ GE918.out | refine below_set ?_ GE929.out) | exact HB.out)) hb); clear HO921; clear HO924; clear HO928; clear BK917; clear BK918; clear BK929; clear HB; have HO921 := n0_; have HO924 := n1_; have HO928 := n2_; have BK917 := n3_; have BK918 := n4_; have BK929 := n5_; have HB := n6_; clear n0_ n1_ n2_ n3_ n4_ n5_ n6_; (try clear hb); (try clear hb2); (try clear hk); (try clear hi)) | ((with_reducible refine gate_dst (N := 30) rfl ?_); (try (refine gate_guard (by rfl) ?_; dsimp only)); refine Kd.R_make Kd.bool _ 4 rfl (N := 30) rfl 173 _ _ rfl t930 rfl rfl Try.underlying173 (.bool false) 1 info4 rfl (by decide) (by omega) false (ok := fun _ => True) (okp := fun _ => True) rfl (fun _ hk => hk) trivial (of_decide_eq_true (by first | (with_reducible assumption) | assumption)) (Nat.le_trans (Nat.mul_le_mul_right _ (of_decide_eq_true (by first | (with_reducible assumption) | assumption) : t930.toNat ≤ 281474976710656)) (by omega)) (Below.refl _ _) (Nat.le_refl _) ?_; intro v932 w27 ho28 hb hg_ hnew_; clear hg_ hnew_; (first | rw [← Ny931.out] at ho28 | (simp only [Int.reduceToNat] at ho28; rw [← Ny931.out] at ho28)); have n0_ := Aside0.mk (Kd.R_below (by (with_reducible repeat (first | apply Kd.R_alloc | apply Kd.R_drewN | apply Kd.R_drew)); exact HO921.out) hb); have n1_ := Aside0.mk (Kd.R_below (by (with_reducible repeat (first | apply Kd.R_alloc | apply Kd.R_drewN | apply Kd.R_drew)); exact HO924.out) hb); have n2_ := Aside0.mk (Kd.N_elder' (by (with_reducible repeat (first | apply Kd.N_alloc | apply Kd.N_drewN | apply Kd.N_drew)); exact HO928.out) (Kd.R_base ho28) hb); have n3_ := Aside0.mk (Kd.R_lower ho28 (below_size (by repeat (first | (with_reducible first | exact HB.out | apply below_alloc | apply pw_below_drewN | apply below_drew1 | refine below_set ?_ GE917.out | refine below_set ?_ GE918.out | refine below_set ?_ GE929.out) | exact HB.out)))); have n4_ := Aside0.mk (blk_below (g := gb917) (o := .cells #[.slice A0_0 l0_0.length c0_0, .slice A0_1 l0_1.length c0_1] 44 (0, 0)) (by (with_reducible repeat (first | refine blk_drewN ?_ _ | refine blk_drew ?_ | refine blk_alloc ?_ _)); exact BK917.out) hb); have n5_ := Aside0.mk (blk_below (g := gb918) (o := .cells #[.int .i64 a1_0, .int .i64 a1_1, .int .i64 a1_2, .int .i64 a1_3] 81 (0, 0)) (by (with_reducible repeat (first | refine blk_drewN ?_ _ | refine blk_drew ?_ | refine blk_alloc ?_ _)); exact BK918.out) hb); have n6_ := Aside0.mk (blk_below (g := gb929) (o := .cells #[.slice Ao20 t926.length co20] 163 (0, 0)) (by (with_reducible repeat (first | refine blk_drewN ?_ _ | refine blk_drew ?_ | refine blk_alloc ?_ _)); exact BK929.out) hb); have n7_ := Aside0.mk (below_step (by repeat (first | (with_reducible first | exact HB.out | apply below_alloc | apply pw_below_drewN | apply below_drew1 | refine below_set ?_ GE917.out | refine below_set ?_ GE918.out | refine below_set ?_ GE929.out) | exact HB.out)) hb); clear HO921; clear HO924; clear HO928; clear BK917; clear BK918; clear BK929; clear HB; have HO921 := n0_; have HO924 := n1_; have HO928 := n2_; have HO933 := n3_; have BK917 := n4_; have BK918 := n5_; have BK929 := n6_; have HB := n7_; clear n0_ n1_ n2_ n3_ n4_ n5_ n6_ n7_; clear hb ho28; have hcz29_0 : w27.cell? ⟨gb918, 0, none⟩ = some (.int .i64 a1_0) := (blk_cell BK918.out 0).trans rfl; have hcz29_1 : w27.cell? ⟨gb918, 1, none⟩ = some (.int .i64 a1_1) := (blk_cell BK918.out 1).trans rfl; have hcz29_2 : w27.cell? ⟨gb918, 2, none⟩ = some (.int .i64 a1_2) := (blk_cell BK918.out 2).trans rfl; have hcz29_3 : w27.cell? ⟨gb918, 3, none⟩ = some (.int .i64 a1_3) := (blk_cell BK918.out 3).trans rfl; have hfz29_0 := blk_frozen BK918.out 0; have hfz29_1 := blk_frozen BK918.out 1; have hfz29_2 := blk_frozen BK918.out 2; have hfz29_3 := blk_frozen BK918.out 3))
        go_loopg [7, 8, 11, 12] k (fun kq v7 v8 v11 v12 w' => ∃ (x7_1 : List Int) (x8_1 : List Int) (x10_1 : List Bool) (x11_1 : Int) (x12_1 : Int), v11 = .int .i64 x11_1 ∧ v12 = .int .i64 x12_1 ∧ Aside0 (spec_FreeList.l0 kq x7_1 x8_1 x10_1 x11_1 x12_1 t926 = some (r1, r2, r3)) ∧ Aside0 (kq ≤ k) ∧ Aside0 (Kd.R (Kd.int .i64) 3 w' w.heap.size (fun k_ => some k_ ≠ (v8 : Value).ownBlock) v7 x7_1) ∧ Aside0 (Kd.R (Kd.int .i64) 3 w' w.heap.size (fun k_ => some k_ ≠ (v7 : Value).ownBlock) v8 x8_1) ∧ Aside0 (Kd.R Kd.bool 4 w' w.heap.size (fun _ => True) v932 x10_1) ∧ Aside0 (Kd.N (Kd.slice 5 (Kd.int .u8)) 22 w' w.heap.size (fun k_ => some k_ ≠ (v7 : Value).ownBlock ∧ some k_ ≠ (v8 : Value).ownBlock ∧ some k_ ≠ (v932 : Value).ownBlock ∧ k_ ≠ gb917 ∧ k_ ≠ gb918 ∧ k_ ≠ gb929) (.slice Ao20 t926.length co20) t926) ∧ Aside0 (w'.heap[gb917]? = some (.cells #[(.slice A0_0 l0_0.length c0_0), (.slice A0_1 l0_1.length c0_1)] 44 (0, 0))) ∧ Aside0 (w'.heap[gb918]? = some (.cells #[.int .i64 a1_0, .int .i64 a1_1, .int .i64 a1_2, .int .i64 a1_3] 81 (0, 0))) ∧ Aside0 (w'.heap[gb929]? = some (.cells #[(.slice Ao20 t926.length co20)] 163 (0, 0))) ∧ Aside0 (Below w.heap.size w w'))
        case atStart => exact ⟨(y919), (y922), (y931), (0), (a1_3), (by first | rfl | (simp; done) | (simp [*]; done)), (by first | rfl | (simp; done) | (simp [*]; done)), H', ⟨Nat.le_refl _⟩, ⟨by (with_reducible repeat (first | apply Kd.R_alloc | apply Kd.R_drewN | apply Kd.R_drew)); exact Kd.R_mono HO921.out (fun _ hk => hk.2)⟩, ⟨by (with_reducible repeat (first | apply Kd.R_alloc | apply Kd.R_drewN | apply Kd.R_drew)); exact Kd.R_mono HO924.out (fun _ hk => hk.2)⟩, ⟨by (with_reducible repeat (first | apply Kd.R_alloc | apply Kd.R_drewN | apply Kd.R_drew)); exact HO933.out⟩, ⟨by (with_reducible repeat (first | apply Kd.N_alloc | apply Kd.N_drewN | apply Kd.N_drew)); exact Kd.N_mono HO928.out (fun _ hk => ⟨hk.1.1.1, ⟨hk.1.1.2.1, ⟨hk.2, ⟨hk.1.1.2.2.1, ⟨hk.1.1.2.2.2, hk.1.2⟩⟩⟩⟩⟩)⟩, ⟨by (with_reducible repeat (first | refine blk_drewN ?_ _ | refine blk_drew ?_ | refine blk_alloc ?_ _)); exact BK917.out⟩, ⟨by (with_reducible repeat (first | refine blk_drewN ?_ _ | refine blk_drew ?_ | refine blk_alloc ?_ _)); exact BK918.out⟩, ⟨by (with_reducible repeat (first | refine blk_drewN ?_ _ | refine blk_drew ?_ | refine blk_alloc ?_ _)); exact BK929.out⟩, ⟨by repeat (first | (with_reducible first | exact HB.out | apply below_alloc | apply pw_below_drewN | apply below_drew1 | refine below_set ?_ GE917.out | refine below_set ?_ GE918.out | refine below_set ?_ GE929.out) | exact HB.out)⟩⟩
        case round =>
          clear H'
          try clear c1
          try clear c2
          try clear p2
          try clear c4
          try clear c6
          try clear c7
          try clear c7b0
          try clear c7b1
          try clear c8
          try clear c8b0
          try clear c8b1
          try clear c12
          try clear c15
          try clear c22
          try clear c23
          try clear hcz16_0
          try clear hcz16_1
          try clear hcz18_0
          try clear hcz18_1
          try clear hcz24_0
          try clear hcz25_0
          try clear hcz25_1
          try clear hcz29_0
          try clear hcz29_1
          try clear hcz29_2
          try clear hcz29_3
          try clear hfz16_0
          try clear hfz16_1
          try clear hfz18_0
          try clear hfz18_1
          try clear hfz24_0
          try clear hfz25_0
          try clear hfz25_1
          try clear hfz29_0
          try clear hfz29_1
          try clear hfz29_2
          try clear hfz29_3
          obtain ⟨x7_1, x8_1, x10_1, x11_1, x12_1, rfl, rfl, HA, HK1, HO_7, HO_8, HO_10, HO_930000, BK917, BK918, BK929, HB⟩ := hrel
          cases gk with
          | zero => exact absurd HA.out (by simp [spec_FreeList.l0])
          | succ k1 =>
            have H := HA.out
            clear HA
            simp only [spec_FreeList.l0] at H
            by_cases c30 : x12_1 = 0
            · rw [if_pos c30] at H
              have c30b0 : (x12_1 == 0) = true := beq_iff_eq.mpr c30
              have c30b1 : (x12_1 != 0) = false := bne_eq_false_iff_eq.mpr c30
              clear c30
              simp only [Option.some.injEq, Prod.mk.injEq] at H
              obtain ⟨rfl, rfl, rfl⟩ := H
              go_wp2
              go_ret3
              exact ⟨_, _, by first | rfl | (simp [errW_none, errW_some] <;> rfl) | (simp [*, errW_none, errW_some] <;> rfl), by (with_reducible repeat (first | apply Kd.R_alloc | apply Kd.R_drewN | apply Kd.R_drew)); exact HO_7.out, by (with_reducible repeat (first | apply Kd.R_alloc | apply Kd.R_drewN | apply Kd.R_drew)); exact HO_8.out, by repeat (first | (with_reducible first | exact HB.out | apply below_alloc | apply pw_below_drewN | apply below_drew1 | refine below_set ?_ GE917.out | refine below_set ?_ GE918.out | refine below_set ?_ GE929.out) | exact HB.out)⟩
            · rw [if_neg c30] at H
              have c30b0 : (x12_1 == 0) = false := beq_eq_false_iff_ne.mpr c30
              have c30b1 : (x12_1 != 0) = true := bne_iff_ne.mpr c30
              replace H := Option.bind_eq_some_iff.mp H
              obtain ⟨⟨t934, t935, t938⟩, A310, H⟩ := H
              replace H : (if t938 = true then (if t934 = 4 then (if 0 ≤ x12_1 then (if x12_1 < (x10_1.length : Int) then (if rdOf false x10_1 x12_1 = true then (spec_FreeList.j1 k1 x7_1 x8_1 x10_1 x11_1 x12_1 t935 true t926) else (if (t935.length : Int) < 4 then (spec_FreeList.j1 k1 x7_1 x8_1 x10_1 x11_1 x12_1 t935 true t926) else (spec_FreeList.j1 k1 x7_1 x8_1 x10_1 x11_1 x12_1 t935 (((t935.length : Int) % 4) != 0) t926))) else (none)) else (none)) else (spec_FreeList.j1 k1 x7_1 x8_1 x10_1 x11_1 x12_1 t935 true t926)) else (spec_FreeList.j1 k1 x7_1 x8_1 x10_1 x11_1 x12_1 t935 true t926)) = some (r1, r2, r3) := H
              have A31 := Aside0.mk A310
              clear A310
              have HC32 := Aside0.mk H
              clear H
              have hnb33 := NB929_917.out
              have hnc33 := NB917_929.out
              have hnb34 := NB929_918.out
              have hnc34 := NB918_929.out
              have hcz35_0 : wr.cell? ⟨gb929, 0, none⟩ = some (.slice Ao20 t926.length co20) := (blk_cell BK929.out 0).trans rfl
              have hfz35_0 := blk_frozen BK929.out 0
              go_upto_region 11 with (first | ((with_reducible refine gate_callee (f := 117) rfl ?_); refine goesL_ (some 38) rfl rfl Try.func117 (by kernel_rfl) rfl #[.agg #[.slice Ao20 t926.length co20], .int .i64 x12_1] rfl (by (try simp only [List.map_toArray, List.map_cons, List.map_nil]); first | done | rfl | (simp only [List.length_drop, List.length_take]; rfl)) ?_; (with_reducible refine (spec_l2View_page.calls k1 _ _ t926 x12_1 t934 t935 t938 _ ?side1 ?side2 A31.out).mono ?_); (case side1 => repeat (first | exact (Kd.N_reads' HO_930000.out).2.2 | (with_reducible refine Kd.C_alloc ?_ _) | (with_reducible refine Kd.C_drewN ?_ _) | (with_reducible refine Kd.C_drew ?_))); (case side2 => exact (Kd.N_reads' HO_930000.out).2.1); rintro e w36 ⟨v936, rfl, ho0, hb⟩; refine ⟨_, rfl, ?_⟩; have n0_ := Aside0.mk (Kd.R_below (by (with_reducible repeat (first | apply Kd.R_alloc | apply Kd.R_drewN | apply Kd.R_drew)); exact HO_7.out) hb); have n1_ := Aside0.mk (Kd.R_below (by (with_reducible repeat (first | apply Kd.R_alloc | apply Kd.R_drewN | apply Kd.R_drew)); exact HO_8.out) hb); have n2_ := Aside0.mk (Kd.R_below (by (with_reducible repeat (first | apply Kd.R_alloc | apply Kd.R_drewN | apply Kd.R_drew)); exact HO_10.out) hb); have n3_ := Aside0.mk (Kd.N_elder' (by (with_reducible repeat (first | apply Kd.N_alloc | apply Kd.N_drewN | apply Kd.N_drew)); exact HO_930000.out) (Kd.R_base ho0) hb); have n4_ := Aside0.mk (Kd.R_lower ho0 (below_size (by repeat (first | (with_reducible first | exact HB.out | apply below_alloc | apply pw_below_drewN | apply below_drew1 | refine below_set ?_ GE917.out | refine below_set ?_ GE918.out | refine below_set ?_ GE929.out) | exact HB.out)))); have n5_ := Aside0.mk (blk_below (g := gb917) (o := .cells #[.slice A0_0 l0_0.length c0_0, .slice A0_1 l0_1.length c0_1] 44 (0, 0)) (by (with_reducible repeat (first | refine blk_drewN ?_ _ | refine blk_drew ?_ | refine blk_alloc ?_ _)); exact BK917.out) hb); have n6_ := Aside0.mk (blk_below (g := gb918) (o := .cells #[.int .i64 a1_0, .int .i64 a1_1, .int .i64 a1_2, .int .i64 a1_3] 81 (0, 0)) (by (with_reducible repeat (first | refine blk_drewN ?_ _ | refine blk_drew ?_ | refine blk_alloc ?_ _)); exact BK918.out) hb); have n7_ := Aside0.mk (blk_below (g := gb929) (o := .cells #[.slice Ao20 t926.length co20] 163 (0, 0)) (by (with_reducible repeat (first | refine blk_drewN ?_ _ | refine blk_drew ?_ | refine blk_alloc ?_ _)); exact BK929.out) hb); have n8_ := Aside0.mk (below_step (by repeat (first | (with_reducible first | exact HB.out | apply below_alloc | apply pw_below_drewN | apply below_drew1 | refine below_set ?_ GE917.out | refine below_set ?_ GE918.out | refine below_set ?_ GE929.out) | exact HB.out)) hb); clear HO_7; clear HO_8; clear HO_10; clear HO_930000; clear BK917; clear BK918; clear BK929; clear HB; have HO_7 := n0_; have HO_8 := n1_; have HO_10 := n2_; have HO_930000 := n3_; have HO937 := n4_; have BK917 := n5_; have BK918 := n6_; have BK929 := n7_; have HB := n8_; clear n0_ n1_ n2_ n3_ n4_ n5_ n6_ n7_ n8_; (try clear hb); (try clear hb2); (try clear hk); (try clear hi); (try clear ho0)))
              (try simp only [Act.put, List.setIfInBounds_toArray, List.set_cons_zero, List.set_cons_succ])
              go_cut [64] (fun v64 wc => ∃ (kq : Nat) (x64_31 : Bool), v64 = .bool x64_31 ∧ Aside0 (spec_FreeList.j1 kq x7_1 x8_1 x10_1 x11_1 x12_1 t935 x64_31 t926 = some (r1, r2, r3)) ∧ Aside0 (kq ≤ k1) ∧ Aside0 (Kd.R (Kd.int .i64) 3 wc w.heap.size (fun k_ => some k_ ≠ (u8 : Value).ownBlock) u7 x7_1) ∧ Aside0 (Kd.R (Kd.int .i64) 3 wc w.heap.size (fun k_ => some k_ ≠ (u7 : Value).ownBlock) u8 x8_1) ∧ Aside0 (Kd.R Kd.bool 4 wc w.heap.size (fun _ => True) v932 x10_1) ∧ Aside0 (Kd.R (Kd.int .u8) 5 wc w.heap.size (fun _ => True) v936 t935) ∧ Aside0 (Kd.N (Kd.slice 5 (Kd.int .u8)) 22 wc w.heap.size (fun k_ => some k_ ≠ (u7 : Value).ownBlock ∧ some k_ ≠ (u8 : Value).ownBlock ∧ some k_ ≠ (v932 : Value).ownBlock ∧ some k_ ≠ (v936 : Value).ownBlock ∧ k_ ≠ gb917 ∧ k_ ≠ gb918 ∧ k_ ≠ gb929) (.slice Ao20 t926.length co20) t926) ∧ Aside0 (wc.heap[gb917]? = some (.cells #[(.slice A0_0 l0_0.length c0_0), (.slice A0_1 l0_1.length c0_1)] 44 (0, 0))) ∧ Aside0 (wc.heap[gb918]? = some (.cells #[.int .i64 a1_0, .int .i64 a1_1, .int .i64 a1_2, .int .i64 a1_3] 81 (0, 0))) ∧ Aside0 (wc.heap[gb929]? = some (.cells #[(.slice Ao20 t926.length co20)] 163 (0, 0))) ∧ Aside0 (Below w.heap.size w wc))
              case first =>
                have H := HC32.out
                clear HC32
                by_cases c37 : t938 = true
                · subst c37
                  have H1 : (if t934 = 4 then (if 0 ≤ x12_1 then (if x12_1 < (x10_1.length : Int) then (if rdOf false x10_1 x12_1 = true then (spec_FreeList.j1 k1 x7_1 x8_1 x10_1 x11_1 x12_1 t935 true t926) else (if (t935.length : Int) < 4 then (spec_FreeList.j1 k1 x7_1 x8_1 x10_1 x11_1 x12_1 t935 true t926) else (spec_FreeList.j1 k1 x7_1 x8_1 x10_1 x11_1 x12_1 t935 (((t935.length : Int) % 4) != 0) t926))) else (none)) else (none)) else (spec_FreeList.j1 k1 x7_1 x8_1 x10_1 x11_1 x12_1 t935 true t926)) = some (r1, r2, r3) := by rw [if_pos rfl] at H; exact H
                  clear H
                  have H := H1
                  clear H1
                  by_cases c38 : t934 = 4
                  · rw [if_pos c38] at H
                    have c38b0 : (t934 == 4) = true := beq_iff_eq.mpr c38
                    have c38b1 : (t934 != 4) = false := bne_eq_false_iff_eq.mpr c38
                    clear c38
                    (first | rw [c38b0] | (simp only [i64_w, i32_w]; rw [c38b0]) | skip)
                    by_cases c39 : 0 ≤ x12_1
                    · rw [if_pos c39] at H
                      have c39b0 : decide (0 ≤ x12_1) = true := decide_eq_true c39
                      clear c39
                      by_cases c40 : x12_1 < (x10_1.length : Int)
                      · rw [if_pos c40] at H
                        have c40b0 : decide (x12_1 < (x10_1.length : Int)) = true := decide_eq_true c40
                        clear c40
                        obtain ⟨bq41, hbq41⟩ : ∃ b_ : Bool, b_ = (rdOf false x10_1 x12_1) := ⟨_, rfl⟩
                        replace H : (if bq41 = true then (spec_FreeList.j1 k1 x7_1 x8_1 x10_1 x11_1 x12_1 t935 true t926) else (if (t935.length : Int) < 4 then (spec_FreeList.j1 k1 x7_1 x8_1 x10_1 x11_1 x12_1 t935 true t926) else (spec_FreeList.j1 k1 x7_1 x8_1 x10_1 x11_1 x12_1 t935 (((t935.length : Int) % 4) != 0) t926))) = some (r1, r2, r3) := by rw [← hbq41] at H; exact H
                        have Nbq41 := Aside0.mk hbq41
                        clear hbq41
                        by_cases c42 : bq41 = true
                        · subst c42
                          have H1 : (spec_FreeList.j1 k1 x7_1 x8_1 x10_1 x11_1 x12_1 t935 true t926) = some (r1, r2, r3) := by rw [if_pos rfl] at H; exact H
                          clear H
                          have H := H1
                          clear H1
                          have H' := Aside0.mk H
                          clear H
                          obtain ⟨Ao43, co43, eo43⟩ := Kd.R_slice HO_10.out
                          subst eo43
                          have p939 : 0 ≤ (x12_1 : Int) := of_decide_eq_true (by first | (with_reducible assumption) | assumption)
                          have q939 : x12_1 < (x10_1.length : Int) := of_decide_eq_true (by first | (with_reducible assumption) | assumption)
                          obtain ⟨ad939, e939, hx939_0⟩ := Kd.at_bool (Kd.R_reads' HO_10.out).2.2 x12_1 p939 q939
                          (try rw [← Nbq41.out] at hx939_0)
                          cases e939
                          replace p939 := eq_true p939
                          replace q939 := eq_true q939
                          go_wp2
                          go_meet
                          case rel => exact ⟨_, (true), (by first | rfl | (simp; done) | (simp [*]; done)), H', ⟨by have := HK1.out; first | omega | exact Nat.le_refl _⟩, ⟨by (with_reducible repeat (first | apply Kd.R_alloc | apply Kd.R_drewN | apply Kd.R_drew)); exact HO_7.out⟩, ⟨by (with_reducible repeat (first | apply Kd.R_alloc | apply Kd.R_drewN | apply Kd.R_drew)); exact HO_8.out⟩, ⟨by (with_reducible repeat (first | apply Kd.R_alloc | apply Kd.R_drewN | apply Kd.R_drew)); exact HO_10.out⟩, ⟨by (with_reducible repeat (first | apply Kd.R_alloc | apply Kd.R_drewN | apply Kd.R_drew)); exact HO937.out⟩, ⟨by (with_reducible repeat (first | apply Kd.N_alloc | apply Kd.N_drewN | apply Kd.N_drew)); exact Kd.N_mono HO_930000.out (fun _ hk => ⟨hk.1.1, ⟨hk.1.2.1, ⟨hk.1.2.2.1, ⟨hk.2, ⟨hk.1.2.2.2.1, ⟨hk.1.2.2.2.2.1, hk.1.2.2.2.2.2⟩⟩⟩⟩⟩⟩)⟩, ⟨by (with_reducible repeat (first | refine blk_drewN ?_ _ | refine blk_drew ?_ | refine blk_alloc ?_ _)); exact BK917.out⟩, ⟨by (with_reducible repeat (first | refine blk_drewN ?_ _ | refine blk_drew ?_ | refine blk_alloc ?_ _)); exact BK918.out⟩, ⟨by (with_reducible repeat (first | refine blk_drewN ?_ _ | refine blk_drew ?_ | refine blk_alloc ?_ _)); exact BK929.out⟩, ⟨by repeat (first | (with_reducible first | exact HB.out | apply below_alloc | apply pw_below_drewN | apply below_drew1 | refine below_set ?_ GE917.out | refine below_set ?_ GE918.out | refine below_set ?_ GE929.out) | exact HB.out)⟩⟩
                        · replace c42 := Bool.eq_false_iff.mpr c42
                          subst c42
                          have H1 : (if (t935.length : Int) < 4 then (spec_FreeList.j1 k1 x7_1 x8_1 x10_1 x11_1 x12_1 t935 true t926) else (spec_FreeList.j1 k1 x7_1 x8_1 x10_1 x11_1 x12_1 t935 (((t935.length : Int) % 4) != 0) t926)) = some (r1, r2, r3) := by rw [if_neg (show ¬ (false = true) by decide)] at H; exact H
                          clear H
                          have H := H1
                          clear H1
                          by_cases c44 : (t935.length : Int) < 4
                          · rw [if_pos c44] at H
                            have c44b0 : decide ((t935.length : Int) < 4) = true := decide_eq_true c44
                            have c44b1 : decide (t935.length < 4) = true := decide_eq_true (by omega)
                            clear c44
                            have H' := Aside0.mk H
                            clear H
                            obtain ⟨Ao45, co45, eo45⟩ := Kd.R_slice HO_10.out
                            subst eo45
                            have p939 : 0 ≤ (x12_1 : Int) := of_decide_eq_true (by first | (with_reducible assumption) | assumption)
                            have q939 : x12_1 < (x10_1.length : Int) := of_decide_eq_true (by first | (with_reducible assumption) | assumption)
                            obtain ⟨ad939, e939, hx939_0⟩ := Kd.at_bool (Kd.R_reads' HO_10.out).2.2 x12_1 p939 q939
                            (try rw [← Nbq41.out] at hx939_0)
                            cases e939
                            replace p939 := eq_true p939
                            replace q939 := eq_true q939
                            obtain ⟨Ao46, co46, eo46⟩ := Kd.R_slice HO937.out
                            subst eo46
                            go_wp2
                            go_meet
                            case rel => exact ⟨_, (true), (by first | rfl | (simp; done) | (simp [*]; done)), H', ⟨by have := HK1.out; first | omega | exact Nat.le_refl _⟩, ⟨by (with_reducible repeat (first | apply Kd.R_alloc | apply Kd.R_drewN | apply Kd.R_drew)); exact HO_7.out⟩, ⟨by (with_reducible repeat (first | apply Kd.R_alloc | apply Kd.R_drewN | apply Kd.R_drew)); exact HO_8.out⟩, ⟨by (with_reducible repeat (first | apply Kd.R_alloc | apply Kd.R_drewN | apply Kd.R_drew)); exact HO_10.out⟩, ⟨by (with_reducible repeat (first | apply Kd.R_alloc | apply Kd.R_drewN | apply Kd.R_drew)); exact HO937.out⟩, ⟨by (with_reducible repeat (first | apply Kd.N_alloc | apply Kd.N_drewN | apply Kd.N_drew)); exact Kd.N_mono HO_930000.out (fun _ hk => ⟨hk.1.1, ⟨hk.1.2.1, ⟨hk.1.2.2.1, ⟨hk.2, ⟨hk.1.2.2.2.1, ⟨hk.1.2.2.2.2.1, hk.1.2.2.2.2.2⟩⟩⟩⟩⟩⟩)⟩, ⟨by (with_reducible repeat (first | refine blk_drewN ?_ _ | refine blk_drew ?_ | refine blk_alloc ?_ _)); exact BK917.out⟩, ⟨by (with_reducible repeat (first | refine blk_drewN ?_ _ | refine blk_drew ?_ | refine blk_alloc ?_ _)); exact BK918.out⟩, ⟨by (with_reducible repeat (first | refine blk_drewN ?_ _ | refine blk_drew ?_ | refine blk_alloc ?_ _)); exact BK929.out⟩, ⟨by repeat (first | (with_reducible first | exact HB.out | apply below_alloc | apply pw_below_drewN | apply below_drew1 | refine below_set ?_ GE917.out | refine below_set ?_ GE918.out | refine below_set ?_ GE929.out) | exact HB.out)⟩⟩
                          · rw [if_neg c44] at H
                            have c44b0 : decide ((t935.length : Int) < 4) = false := decide_eq_false c44
                            have c44b1 : decide (t935.length < 4) = false := decide_eq_false (by omega)
                            clear c44
                            have H' := Aside0.mk H
                            clear H
                            obtain ⟨Ao47, co47, eo47⟩ := Kd.R_slice HO_10.out
                            subst eo47
                            have p939 : 0 ≤ (x12_1 : Int) := of_decide_eq_true (by first | (with_reducible assumption) | assumption)
                            have q939 : x12_1 < (x10_1.length : Int) := of_decide_eq_true (by first | (with_reducible assumption) | assumption)
                            obtain ⟨ad939, e939, hx939_0⟩ := Kd.at_bool (Kd.R_reads' HO_10.out).2.2 x12_1 p939 q939
                            (try rw [← Nbq41.out] at hx939_0)
                            cases e939
                            replace p939 := eq_true p939
                            replace q939 := eq_true q939
                            obtain ⟨Ao48, co48, eo48⟩ := Kd.R_slice HO937.out
                            subst eo48
                            go_wp2
                            go_meet
                            case rel => exact ⟨_, ((((t935.length : Int) % 4) != 0)), (by first | rfl | (simp; done) | (simp [*]; done)), H', ⟨by have := HK1.out; first | omega | exact Nat.le_refl _⟩, ⟨by (with_reducible repeat (first | apply Kd.R_alloc | apply Kd.R_drewN | apply Kd.R_drew)); exact HO_7.out⟩, ⟨by (with_reducible repeat (first | apply Kd.R_alloc | apply Kd.R_drewN | apply Kd.R_drew)); exact HO_8.out⟩, ⟨by (with_reducible repeat (first | apply Kd.R_alloc | apply Kd.R_drewN | apply Kd.R_drew)); exact HO_10.out⟩, ⟨by (with_reducible repeat (first | apply Kd.R_alloc | apply Kd.R_drewN | apply Kd.R_drew)); exact HO937.out⟩, ⟨by (with_reducible repeat (first | apply Kd.N_alloc | apply Kd.N_drewN | apply Kd.N_drew)); exact Kd.N_mono HO_930000.out (fun _ hk => ⟨hk.1.1, ⟨hk.1.2.1, ⟨hk.1.2.2.1, ⟨hk.2, ⟨hk.1.2.2.2.1, ⟨hk.1.2.2.2.2.1, hk.1.2.2.2.2.2⟩⟩⟩⟩⟩⟩)⟩, ⟨by (with_reducible repeat (first | refine blk_drewN ?_ _ | refine blk_drew ?_ | refine blk_alloc ?_ _)); exact BK917.out⟩, ⟨by (with_reducible repeat (first | refine blk_drewN ?_ _ | refine blk_drew ?_ | refine blk_alloc ?_ _)); exact BK918.out⟩, ⟨by (with_reducible repeat (first | refine blk_drewN ?_ _ | refine blk_drew ?_ | refine blk_alloc ?_ _)); exact BK929.out⟩, ⟨by repeat (first | (with_reducible first | exact HB.out | apply below_alloc | apply pw_below_drewN | apply below_drew1 | refine below_set ?_ GE917.out | refine below_set ?_ GE918.out | refine below_set ?_ GE929.out) | exact HB.out)⟩⟩
                      · rw [if_neg c40] at H
                        exact absurd H (by simp)
                    · rw [if_neg c39] at H
                      exact absurd H (by simp)
                  · rw [if_neg c38] at H
                    have c38b0 : (t934 == 4) = false := beq_eq_false_iff_ne.mpr c38
                    have c38b1 : (t934 != 4) = true := bne_iff_ne.mpr c38
                    (first | rw [c38b0] | (simp only [i64_w, i32_w]; rw [c38b0]) | skip)
                    have H' := Aside0.mk H
                    clear H
                    go_wp2
                    go_meet
                    case rel => exact ⟨_, (true), (by first | rfl | (simp; done) | (simp [*]; done)), H', ⟨by have := HK1.out; first | omega | exact Nat.le_refl _⟩, ⟨by (with_reducible repeat (first | apply Kd.R_alloc | apply Kd.R_drewN | apply Kd.R_drew)); exact HO_7.out⟩, ⟨by (with_reducible repeat (first | apply Kd.R_alloc | apply Kd.R_drewN | apply Kd.R_drew)); exact HO_8.out⟩, ⟨by (with_reducible repeat (first | apply Kd.R_alloc | apply Kd.R_drewN | apply Kd.R_drew)); exact HO_10.out⟩, ⟨by (with_reducible repeat (first | apply Kd.R_alloc | apply Kd.R_drewN | apply Kd.R_drew)); exact HO937.out⟩, ⟨by (with_reducible repeat (first | apply Kd.N_alloc | apply Kd.N_drewN | apply Kd.N_drew)); exact Kd.N_mono HO_930000.out (fun _ hk => ⟨hk.1.1, ⟨hk.1.2.1, ⟨hk.1.2.2.1, ⟨hk.2, ⟨hk.1.2.2.2.1, ⟨hk.1.2.2.2.2.1, hk.1.2.2.2.2.2⟩⟩⟩⟩⟩⟩)⟩, ⟨by (with_reducible repeat (first | refine blk_drewN ?_ _ | refine blk_drew ?_ | refine blk_alloc ?_ _)); exact BK917.out⟩, ⟨by (with_reducible repeat (first | refine blk_drewN ?_ _ | refine blk_drew ?_ | refine blk_alloc ?_ _)); exact BK918.out⟩, ⟨by (with_reducible repeat (first | refine blk_drewN ?_ _ | refine blk_drew ?_ | refine blk_alloc ?_ _)); exact BK929.out⟩, ⟨by repeat (first | (with_reducible first | exact HB.out | apply below_alloc | apply pw_below_drewN | apply below_drew1 | refine below_set ?_ GE917.out | refine below_set ?_ GE918.out | refine below_set ?_ GE929.out) | exact HB.out)⟩⟩
                · replace c37 := Bool.eq_false_iff.mpr c37
                  subst c37
                  have H1 : (spec_FreeList.j1 k1 x7_1 x8_1 x10_1 x11_1 x12_1 t935 true t926) = some (r1, r2, r3) := by rw [if_neg (show ¬ (false = true) by decide)] at H; exact H
                  clear H
                  have H := H1
                  clear H1
                  have H' := Aside0.mk H
                  clear H
                  go_wp2
                  go_meet
                  case rel => exact ⟨_, (true), (by first | rfl | (simp; done) | (simp [*]; done)), H', ⟨by have := HK1.out; first | omega | exact Nat.le_refl _⟩, ⟨by (with_reducible repeat (first | apply Kd.R_alloc | apply Kd.R_drewN | apply Kd.R_drew)); exact HO_7.out⟩, ⟨by (with_reducible repeat (first | apply Kd.R_alloc | apply Kd.R_drewN | apply Kd.R_drew)); exact HO_8.out⟩, ⟨by (with_reducible repeat (first | apply Kd.R_alloc | apply Kd.R_drewN | apply Kd.R_drew)); exact HO_10.out⟩, ⟨by (with_reducible repeat (first | apply Kd.R_alloc | apply Kd.R_drewN | apply Kd.R_drew)); exact HO937.out⟩, ⟨by (with_reducible repeat (first | apply Kd.N_alloc | apply Kd.N_drewN | apply Kd.N_drew)); exact Kd.N_mono HO_930000.out (fun _ hk => ⟨hk.1.1, ⟨hk.1.2.1, ⟨hk.1.2.2.1, ⟨hk.2, ⟨hk.1.2.2.2.1, ⟨hk.1.2.2.2.2.1, hk.1.2.2.2.2.2⟩⟩⟩⟩⟩⟩)⟩, ⟨by (with_reducible repeat (first | refine blk_drewN ?_ _ | refine blk_drew ?_ | refine blk_alloc ?_ _)); exact BK917.out⟩, ⟨by (with_reducible repeat (first | refine blk_drewN ?_ _ | refine blk_drew ?_ | refine blk_alloc ?_ _)); exact BK918.out⟩, ⟨by (with_reducible repeat (first | refine blk_drewN ?_ _ | refine blk_drew ?_ | refine blk_alloc ?_ _)); exact BK929.out⟩, ⟨by repeat (first | (with_reducible first | exact HB.out | apply below_alloc | apply pw_below_drewN | apply below_drew1 | refine below_set ?_ GE917.out | refine below_set ?_ GE918.out | refine below_set ?_ GE929.out) | exact HB.out)⟩⟩
              case rest =>
                clear HC32
                try clear c1
                try clear c2
                try clear p2
                try clear c3
                try clear c4
                try clear q4
                try clear c6
                try clear c7
                try clear c7b0
                try clear c7b1
                try clear c8
                try clear c8b0
                try clear c8b1
                try clear p9
                try clear q9
                try clear hx9
                try clear c11
                try clear c12
                try clear c15
                try clear c22
                try clear c23
                try clear c30
                try clear c30b0
                try clear c30b1
                try clear c33
                try clear c34
                try clear c37
                try clear c38
                try clear c38b0
                try clear c38b1
                try clear c39
                try clear c39b0
                try clear c40
                try clear c40b0
                try clear q41
                try clear c42
                try clear c44
                try clear c44b0
                try clear c44b1
                try clear hcz16_0
                try clear hcz16_1
                try clear hcz18_0
                try clear hcz18_1
                try clear hcz24_0
                try clear hcz25_0
                try clear hcz25_1
                try clear hcz29_0
                try clear hcz29_1
                try clear hcz29_2
                try clear hcz29_3
                try clear hcz35_0
                try clear hfz16_0
                try clear hfz16_1
                try clear hfz18_0
                try clear hfz18_1
                try clear hfz24_0
                try clear hfz25_0
                try clear hfz25_1
                try clear hfz29_0
                try clear hfz29_1
                try clear hfz29_2
                try clear hfz29_3
                try clear hfz35_0
                try clear hx939_0
                try clear p2
                try clear p939
                try clear q939
                obtain ⟨kq, x64_31, rfl, HA, HJ31, HO_7, HO_8, HO_10, HO_14, HO_930000, BK917, BK918, BK929, HB⟩ := hcut
                cases kq with
                | zero => exact absurd HA.out (by simp [spec_FreeList.j1])
                | succ kj31 =>
                  have H := HA.out
                  clear HA
                  simp only [spec_FreeList.j1] at H
                  by_cases c49 : x64_31 = true
                  · subst c49
                    have H1 : (some ((([] : List Int)), (([] : List Int)), false)) = some (r1, r2, r3) := by rw [if_pos rfl] at H; exact H
                    clear H
                    have H := H1
                    clear H1
                    obtain ⟨y940, hy940⟩ : ∃ y_ : List Int, y_ = (([] : List Int)) := ⟨_, rfl⟩
                    replace H : (some (y940, (([] : List Int)), false)) = some (r1, r2, r3) := by first | (rw [hy940]; with_reducible exact H) | (have H2_ := (Option.bind_some _ _).symm.trans H; rw [hy940]; with_reducible exact H2_) | (have H2_ := (Option.bind_some _ _).symm.trans H; with_reducible exact H2_) | with_reducible exact H | (rw [hy940]; exact H) | exact H
                    have Ny940 := Aside0.mk hy940
                    clear hy940
                    obtain ⟨y943, hy943⟩ : ∃ y_ : List Int, y_ = (([] : List Int)) := ⟨_, rfl⟩
                    replace H : (some (y940, y943, false)) = some (r1, r2, r3) := by first | (rw [hy943]; with_reducible exact H) | (have H2_ := (Option.bind_some _ _).symm.trans H; rw [hy943]; with_reducible exact H2_) | (have H2_ := (Option.bind_some _ _).symm.trans H; with_reducible exact H2_) | with_reducible exact H | (rw [hy943]; exact H) | exact H
                    have Ny943 := Aside0.mk hy943
                    clear hy943
                    simp only [Option.some.injEq, Prod.mk.injEq] at H
                    obtain ⟨rfl, rfl, rfl⟩ := H
                    go_wp2_with (first | ((with_reducible refine gate_dst (N := 65) rfl ?_); (try (refine gate_guard (by rfl) ?_; dsimp only)); refine Kd.R_lit (Kd.int .i64) _ 3 ?hg (N := 65) ?hd (xs := ([] : List Int)) (inner := []) (ok := fun _ => True) (okp := fun _ => True) ?hr ?hp (fun _ hk => hk) trivial (Below.refl _ _) (Nat.le_refl _) (by simp) ?_; (case hd => rfl); (case hg => rfl); (case hr => first | (go_simp; done) | (go_simp; rfl)); (case hp => exact (Reps.none _ _)); intro v941 w50 ho51 hb hg_ hnew_; clear hg_ hnew_; (first | rw [← Ny940.out] at ho51 | (simp only [Int.reduceToNat] at ho51; rw [← Ny940.out] at ho51)); have n0_ := Aside0.mk (Kd.R_elder' (by (with_reducible repeat (first | apply Kd.R_alloc | apply Kd.R_drewN | apply Kd.R_drew)); exact HO_7.out) (Kd.R_base ho51) hb); have n1_ := Aside0.mk (Kd.R_elder' (by (with_reducible repeat (first | apply Kd.R_alloc | apply Kd.R_drewN | apply Kd.R_drew)); exact HO_8.out) (Kd.R_base ho51) hb); have n2_ := Aside0.mk (Kd.R_below (by (with_reducible repeat (first | apply Kd.R_alloc | apply Kd.R_drewN | apply Kd.R_drew)); exact HO_10.out) hb); have n3_ := Aside0.mk (Kd.R_below (by (with_reducible repeat (first | apply Kd.R_alloc | apply Kd.R_drewN | apply Kd.R_drew)); exact HO_14.out) hb); have n4_ := Aside0.mk (Kd.N_elder' (by (with_reducible repeat (first | apply Kd.N_alloc | apply Kd.N_drewN | apply Kd.N_drew)); exact HO_930000.out) (Kd.R_base ho51) hb); have n5_ := Aside0.mk (Kd.R_lower (Kd.R_new' (Kd.R_new' ho51 (Kd.R_lt (by (with_reducible repeat (first | apply Kd.R_alloc | apply Kd.R_drewN | apply Kd.R_drew)); exact HO_7.out))) (Kd.R_lt (by (with_reducible repeat (first | apply Kd.R_alloc | apply Kd.R_drewN | apply Kd.R_drew)); exact HO_8.out))) (below_size (by repeat (first | (with_reducible first | exact HB.out | apply below_alloc | apply pw_below_drewN | apply below_drew1 | refine below_set ?_ GE917.out | refine below_set ?_ GE918.out | refine below_set ?_ GE929.out) | exact HB.out)))); have n6_ := Aside0.mk (blk_below (g := gb917) (o := .cells #[.slice A0_0 l0_0.length c0_0, .slice A0_1 l0_1.length c0_1] 44 (0, 0)) (by (with_reducible repeat (first | refine blk_drewN ?_ _ | refine blk_drew ?_ | refine blk_alloc ?_ _)); exact BK917.out) hb); have n7_ := Aside0.mk (blk_below (g := gb918) (o := .cells #[.int .i64 a1_0, .int .i64 a1_1, .int .i64 a1_2, .int .i64 a1_3] 81 (0, 0)) (by (with_reducible repeat (first | refine blk_drewN ?_ _ | refine blk_drew ?_ | refine blk_alloc ?_ _)); exact BK918.out) hb); have n8_ := Aside0.mk (blk_below (g := gb929) (o := .cells #[.slice Ao20 t926.length co20] 163 (0, 0)) (by (with_reducible repeat (first | refine blk_drewN ?_ _ | refine blk_drew ?_ | refine blk_alloc ?_ _)); exact BK929.out) hb); have n9_ := Aside0.mk (below_step (by repeat (first | (with_reducible first | exact HB.out | apply below_alloc | apply pw_below_drewN | apply below_drew1 | refine below_set ?_ GE917.out | refine below_set ?_ GE918.out | refine below_set ?_ GE929.out) | exact HB.out)) hb); clear HO_7; clear HO_8; clear HO_10; clear HO_14; clear HO_930000; clear BK917; clear BK918; clear BK929; clear HB; have HO_7 := n0_; have HO_8 := n1_; have HO_10 := n2_; have HO_14 := n3_; have HO_930000 := n4_; have HO942 := n5_; have BK917 := n6_; have BK918 := n7_; have BK929 := n8_; have HB := n9_; clear n0_ n1_ n2_ n3_ n4_ n5_ n6_ n7_ n8_ n9_; clear hb ho51) | ((with_reducible refine gate_dst (N := 66) rfl ?_); (try (refine gate_guard (by rfl) ?_; dsimp only)); refine Kd.R_lit (Kd.int .i64) _ 3 ?hg (N := 66) ?hd (xs := ([] : List Int)) (inner := []) (ok := fun _ => True) (okp := fun _ => True) ?hr ?hp (fun _ hk => hk) trivial (Below.refl _ _) (Nat.le_refl _) (by simp) ?_; (case hd => rfl); (case hg => rfl); (case hr => first | (go_simp; done) | (go_simp; rfl)); (case hp => exact (Reps.none _ _)); intro v944 w52 ho53 hb hg_ hnew_; clear hg_ hnew_; (first | rw [← Ny943.out] at ho53 | (simp only [Int.reduceToNat] at ho53; rw [← Ny943.out] at ho53)); have n0_ := Aside0.mk (Kd.R_elder' (by (with_reducible repeat (first | apply Kd.R_alloc | apply Kd.R_drewN | apply Kd.R_drew)); exact HO_7.out) (Kd.R_base ho53) hb); have n1_ := Aside0.mk (Kd.R_elder' (by (with_reducible repeat (first | apply Kd.R_alloc | apply Kd.R_drewN | apply Kd.R_drew)); exact HO_8.out) (Kd.R_base ho53) hb); have n2_ := Aside0.mk (Kd.R_below (by (with_reducible repeat (first | apply Kd.R_alloc | apply Kd.R_drewN | apply Kd.R_drew)); exact HO_10.out) hb); have n3_ := Aside0.mk (Kd.R_below (by (with_reducible repeat (first | apply Kd.R_alloc | apply Kd.R_drewN | apply Kd.R_drew)); exact HO_14.out) hb); have n4_ := Aside0.mk (Kd.N_elder' (by (with_reducible repeat (first | apply Kd.N_alloc | apply Kd.N_drewN | apply Kd.N_drew)); exact HO_930000.out) (Kd.R_base ho53) hb); have n5_ := Aside0.mk (Kd.R_elder' (by (with_reducible repeat (first | apply Kd.R_alloc | apply Kd.R_drewN | apply Kd.R_drew)); exact HO942.out) (Kd.R_base ho53) hb); have n6_ := Aside0.mk (Kd.R_lower (Kd.R_new' (Kd.R_new' (Kd.R_new' ho53 (Kd.R_lt (by (with_reducible repeat (first | apply Kd.R_alloc | apply Kd.R_drewN | apply Kd.R_drew)); exact HO_7.out))) (Kd.R_lt (by (with_reducible repeat (first | apply Kd.R_alloc | apply Kd.R_drewN | apply Kd.R_drew)); exact HO_8.out))) (Kd.R_lt (by (with_reducible repeat (first | apply Kd.R_alloc | apply Kd.R_drewN | apply Kd.R_drew)); exact HO942.out))) (below_size (by repeat (first | (with_reducible first | exact HB.out | apply below_alloc | apply pw_below_drewN | apply below_drew1 | refine below_set ?_ GE917.out | refine below_set ?_ GE918.out | refine below_set ?_ GE929.out) | exact HB.out)))); have n7_ := Aside0.mk (blk_below (g := gb917) (o := .cells #[.slice A0_0 l0_0.length c0_0, .slice A0_1 l0_1.length c0_1] 44 (0, 0)) (by (with_reducible repeat (first | refine blk_drewN ?_ _ | refine blk_drew ?_ | refine blk_alloc ?_ _)); exact BK917.out) hb); have n8_ := Aside0.mk (blk_below (g := gb918) (o := .cells #[.int .i64 a1_0, .int .i64 a1_1, .int .i64 a1_2, .int .i64 a1_3] 81 (0, 0)) (by (with_reducible repeat (first | refine blk_drewN ?_ _ | refine blk_drew ?_ | refine blk_alloc ?_ _)); exact BK918.out) hb); have n9_ := Aside0.mk (blk_below (g := gb929) (o := .cells #[.slice Ao20 t926.length co20] 163 (0, 0)) (by (with_reducible repeat (first | refine blk_drewN ?_ _ | refine blk_drew ?_ | refine blk_alloc ?_ _)); exact BK929.out) hb); have n10_ := Aside0.mk (below_step (by repeat (first | (with_reducible first | exact HB.out | apply below_alloc | apply pw_below_drewN | apply below_drew1 | refine below_set ?_ GE917.out | refine below_set ?_ GE918.out | refine below_set ?_ GE929.out) | exact HB.out)) hb); clear HO_7; clear HO_8; clear HO_10; clear HO_14; clear HO_930000; clear HO942; clear BK917; clear BK918; clear BK929; clear HB; have HO_7 := n0_; have HO_8 := n1_; have HO_10 := n2_; have HO_14 := n3_; have HO_930000 := n4_; have HO942 := n5_; have HO945 := n6_; have BK917 := n7_; have BK918 := n8_; have BK929 := n9_; have HB := n10_; clear n0_ n1_ n2_ n3_ n4_ n5_ n6_ n7_ n8_ n9_ n10_; clear hb ho53))
                    go_ret3
                    exact ⟨_, _, by first | rfl | (simp [errW_none, errW_some] <;> rfl) | (simp [*, errW_none, errW_some] <;> rfl), by (with_reducible repeat (first | apply Kd.R_alloc | apply Kd.R_drewN | apply Kd.R_drew)); exact Kd.R_mono HO942.out (fun _ hk => hk.2), by (with_reducible repeat (first | apply Kd.R_alloc | apply Kd.R_drewN | apply Kd.R_drew)); exact Kd.R_mono HO945.out (fun _ hk => hk.2), by repeat (first | (with_reducible first | exact HB.out | apply below_alloc | apply pw_below_drewN | apply below_drew1 | refine below_set ?_ GE917.out | refine below_set ?_ GE918.out | refine below_set ?_ GE929.out) | exact HB.out)⟩
                  · replace c49 := Bool.eq_false_iff.mpr c49
                    subst c49
                    have H1 : (if 0 ≤ x12_1 then (if x12_1 < (x10_1.length : Int) then (if x8_1.length < 17592186044416 then (spec_FreeList.l1 kj31 x7_1 (x8_1 ++ [x12_1]) (x10_1.set (x12_1 : Int).toNat true) x11_1 t935 4 t926) else (none)) else (none)) else (none)) = some (r1, r2, r3) := by rw [if_neg (show ¬ (false = true) by decide)] at H; exact H
                    clear H
                    have H := H1
                    clear H1
                    by_cases c54 : 0 ≤ x12_1
                    · rw [if_pos c54] at H
                      have c54b0 : decide (0 ≤ x12_1) = true := decide_eq_true c54
                      clear c54
                      by_cases c55 : x12_1 < (x10_1.length : Int)
                      · rw [if_pos c55] at H
                        have c55b0 : decide (x12_1 < (x10_1.length : Int)) = true := decide_eq_true c55
                        clear c55
                        obtain ⟨y946, hy946⟩ : ∃ y_ : List Bool, y_ = (x10_1.set (x12_1 : Int).toNat true) := ⟨_, rfl⟩
                        replace H : (if x8_1.length < 17592186044416 then (spec_FreeList.l1 kj31 x7_1 (x8_1 ++ [x12_1]) y946 x11_1 t935 4 t926) else (none)) = some (r1, r2, r3) := by first | (rw [hy946]; with_reducible exact H) | (have H2_ := (Option.bind_some _ _).symm.trans H; rw [hy946]; with_reducible exact H2_) | (have H2_ := (Option.bind_some _ _).symm.trans H; with_reducible exact H2_) | with_reducible exact H | (rw [hy946]; exact H) | exact H
                        have Ny946 := Aside0.mk hy946
                        clear hy946
                        by_cases c57 : x8_1.length < 17592186044416
                        · rw [if_pos c57] at H
                          have LMc57 := Aside0.mk c57
                          clear c57
                          obtain ⟨y947, hy947⟩ : ∃ y_ : List Int, y_ = (x8_1 ++ [x12_1]) := ⟨_, rfl⟩
                          replace H : (spec_FreeList.l1 kj31 x7_1 y947 y946 x11_1 t935 4 t926) = some (r1, r2, r3) := by first | (rw [hy947]; with_reducible exact H) | (have H2_ := (Option.bind_some _ _).symm.trans H; rw [hy947]; with_reducible exact H2_) | (have H2_ := (Option.bind_some _ _).symm.trans H; with_reducible exact H2_) | with_reducible exact H | (rw [hy947]; exact H) | exact H
                          have Ny947 := Aside0.mk hy947
                          clear hy947
                          have H' := Aside0.mk H
                          clear H
                          have p56 : 0 ≤ (x12_1 : Int) := of_decide_eq_true (by first | (with_reducible assumption) | assumption)
                          have q56 : (x12_1 : Int) < ((x10_1.length : Int) : Int) := of_decide_eq_true (by first | (with_reducible assumption) | assumption)
                          obtain ⟨go56, co56, eo56, gb56, gl56, cl56, HG56⟩ := Kd.R_form HO_10.out (by omega)
                          (first | cases eo56 | (injection eo56 with ea_ en_ ec_; (first | subst ea_ | (injection ea_ with ea_; subst ea_)); subst ec_; clear en_))
                          have GB56 := Aside0.mk gb56
                          have GG56 := Aside0.mk HG56
                          clear gb56 gl56 HG56
                          obtain ⟨hx56_0, hf56_0⟩ := Kd.R_celln false HO_10.out (x12_1 : Int) p56 q56
                          replace p56 := eq_true p56
                          replace q56 := eq_true q56
                          have HP58 := Kd.R_putg HO_10.out (x12_1 : Int) true
                          go_wp2_with (first | ((with_reducible refine gate_store (t := 4) (p := 69) rfl ?_); refine store_event (t := 4) (p := 69) (v := ?vo_w59) (w1 := (wc.setCell ⟨go56, (x12_1 : Int).toNat, none⟩ (.bool true))) ?hg ?ho ?hn ?hr ?_; (case ho => rfl); (case hg => rfl); (case hn => rfl); (case hr => first | (go_simp; done) | (go_simp; rfl)); intro w59 hw; have hg : wc.grownBy w59 (some go56) := (by rw [hw]; exact HP58.2); have hp_ : Kd.R Kd.bool 4 w59 w.heap.size (fun _ => True) (.slice (some ⟨go56, 0, none⟩) x10_1.length co56) y946 := (by rw [hw, Ny946.out]; exact HP58.1); clear HP58; have n0_ := Aside0.mk (Kd.R_over' (v := (.slice (some ⟨go56, 0, none⟩) x10_1.length co56)) (by (with_reducible repeat (first | apply Kd.R_alloc | apply Kd.R_drewN | apply Kd.R_drew)); exact HO_7.out) (Kd.R_typed HO_10.out) (by decide) hg); have n1_ := Aside0.mk (Kd.R_over' (v := (.slice (some ⟨go56, 0, none⟩) x10_1.length co56)) (by (with_reducible repeat (first | apply Kd.R_alloc | apply Kd.R_drewN | apply Kd.R_drew)); exact HO_8.out) (Kd.R_typed HO_10.out) (by decide) hg); have n2_ := Aside0.mk (hp_); have n3_ := Aside0.mk (Kd.R_over' (v := (.slice (some ⟨go56, 0, none⟩) x10_1.length co56)) (by (with_reducible repeat (first | apply Kd.R_alloc | apply Kd.R_drewN | apply Kd.R_drew)); exact HO_14.out) (Kd.R_typed HO_10.out) (by decide) hg); have n4_ := Aside0.mk (Kd.N_afterv (v := (.slice (some ⟨go56, 0, none⟩) x10_1.length co56)) (v1 := (.slice (some ⟨go56, 0, none⟩) x10_1.length co56)) (ok := (fun k_ => some k_ ≠ (u7 : Value).ownBlock ∧ some k_ ≠ (u8 : Value).ownBlock ∧ some k_ ≠ (v936 : Value).ownBlock ∧ k_ ≠ gb917 ∧ k_ ≠ gb918 ∧ k_ ≠ gb929)) (by (with_reducible repeat (first | apply Kd.N_alloc | apply Kd.N_drewN | apply Kd.N_drew)); exact Kd.N_mono HO_930000.out (fun _ hk => ⟨⟨hk.1, ⟨hk.2.1, ⟨hk.2.2.2.1, ⟨hk.2.2.2.2.1, ⟨hk.2.2.2.2.2.1, hk.2.2.2.2.2.2⟩⟩⟩⟩⟩, hk.2.2.1⟩)) hg (.inl rfl)); have n5_ := Aside0.mk (blk_grown (g := gb917) (o := .cells #[.slice A0_0 l0_0.length c0_0, .slice A0_1 l0_1.length c0_1] 44 (0, 0)) (by (with_reducible repeat (first | refine blk_drewN ?_ _ | refine blk_drew ?_ | refine blk_alloc ?_ _)); exact BK917.out) hg (Kd.R_ne HO_10.out BK917.out (by decide))); have n6_ := Aside0.mk (blk_grown (g := gb918) (o := .cells #[.int .i64 a1_0, .int .i64 a1_1, .int .i64 a1_2, .int .i64 a1_3] 81 (0, 0)) (by (with_reducible repeat (first | refine blk_drewN ?_ _ | refine blk_drew ?_ | refine blk_alloc ?_ _)); exact BK918.out) hg (Kd.R_ne HO_10.out BK918.out (by decide))); have n7_ := Aside0.mk (blk_grown (g := gb929) (o := .cells #[.slice Ao20 t926.length co20] 163 (0, 0)) (by (with_reducible repeat (first | refine blk_drewN ?_ _ | refine blk_drew ?_ | refine blk_alloc ?_ _)); exact BK929.out) hg (Kd.R_ne HO_10.out BK929.out (by decide))); have n8_ := Aside0.mk ((by rw [hw]; exact below_set (HB.out) GB56.out : Below w.heap.size w w59)); clear HO_7; clear HO_8; clear HO_10; clear HO_14; clear HO_930000; clear BK917; clear BK918; clear BK929; clear HB; have HO_7 := n0_; have HO_8 := n1_; have HO_10 := n2_; have HO_14 := n3_; have HO_930000 := n4_; have BK917 := n5_; have BK918 := n6_; have BK929 := n7_; have HB := n8_; clear n0_ n1_ n2_ n3_ n4_ n5_ n6_ n7_ n8_; clear hg hw hp_) | ((with_reducible refine gate_builtin (b := .append) (xs := #[.tmp 70, .tmp 72]) rfl ?_); (try (refine gate_guard (by rfl) ?_; dsimp only)); at_builtin; refine Kd.R_append (Kd.int .i64) (w0 := w) w.heap.size rfl (.tmp 70) (.tmp 72) 91 3 (.int .i64 0) 8 rfl Try.underlying91 info3 rfl (by decide) (by omega) u8 x8_1 x12_1 [.int .i64 x12_1] (fun k_ => some k_ ≠ (u7 : Value).ownBlock) (fun _ => False) rfl rfl ?aP (fun _ hk => hk.elim) ?aF ?aO ?aB ?aS ?aL ?_; (case aP => exact rfl); (case aB => exact (by repeat (first | (with_reducible first | exact HB.out | apply below_alloc | apply pw_below_drewN | apply below_drew1 | refine below_set ?_ GE917.out | refine below_set ?_ GE918.out | refine below_set ?_ GE929.out) | exact HB.out))); (case aF => exact (fun k_ hk => Kd.fresh' (Kd.R_lt (by (with_reducible repeat (first | apply Kd.R_alloc | apply Kd.R_drewN | apply Kd.R_drew)); exact HO_7.out)) k_ hk)); (case aO => exact (by (with_reducible repeat (first | apply Kd.R_alloc | apply Kd.R_drewN | apply Kd.R_drew)); exact HO_8.out)); (case aS => exact (below_size (by repeat (first | (with_reducible first | exact HB.out | apply below_alloc | apply pw_below_drewN | apply below_drew1 | refine below_set ?_ GE917.out | refine below_set ?_ GE918.out | refine below_set ?_ GE929.out) | exact HB.out)))); (case aL => have := LMc57.out; omega); intro v948 w60 ho hb hg hat; rw [← Ny947.out] at ho; have n0_ := Aside0.mk (Kd.R_after (ok := (fun _ => True)) (by (with_reducible repeat (first | apply Kd.R_alloc | apply Kd.R_drewN | apply Kd.R_drew)); exact Kd.R_mono HO_7.out (fun _ hk => ⟨trivial, hk⟩)) hg hat); have n1_ := Aside0.mk (Kd.R_over' (by (with_reducible repeat (first | apply Kd.R_alloc | apply Kd.R_drewN | apply Kd.R_drew)); exact HO_10.out) (Kd.R_typed (by (with_reducible repeat (first | apply Kd.R_alloc | apply Kd.R_drewN | apply Kd.R_drew)); exact HO_8.out)) (by decide) hg); have n2_ := Aside0.mk (Kd.R_over' (by (with_reducible repeat (first | apply Kd.R_alloc | apply Kd.R_drewN | apply Kd.R_drew)); exact HO_14.out) (Kd.R_typed (by (with_reducible repeat (first | apply Kd.R_alloc | apply Kd.R_drewN | apply Kd.R_drew)); exact HO_8.out)) (by decide) hg); have n3_ := Aside0.mk (Kd.N_afterv (ok := (fun k_ => some k_ ≠ (u7 : Value).ownBlock ∧ some k_ ≠ (.slice (some ⟨go56, 0, none⟩) x10_1.length co56 : Value).ownBlock ∧ some k_ ≠ (v936 : Value).ownBlock ∧ k_ ≠ gb917 ∧ k_ ≠ gb918 ∧ k_ ≠ gb929)) (by (with_reducible repeat (first | apply Kd.N_alloc | apply Kd.N_drewN | apply Kd.N_drew)); exact Kd.N_mono HO_930000.out (fun _ hk => ⟨⟨hk.1.1, ⟨hk.2, ⟨hk.1.2.2.1, ⟨hk.1.2.2.2.1, ⟨hk.1.2.2.2.2.1, hk.1.2.2.2.2.2⟩⟩⟩⟩⟩, hk.1.2.1⟩)) hg hat); have n4_ := Aside0.mk (blk_grown (g := gb917) (o := .cells #[.slice A0_0 l0_0.length c0_0, .slice A0_1 l0_1.length c0_1] 44 (0, 0)) (by (with_reducible repeat (first | refine blk_drewN ?_ _ | refine blk_drew ?_ | refine blk_alloc ?_ _)); exact BK917.out) hg (Kd.R_ne HO_8.out BK917.out (by decide))); have n5_ := Aside0.mk (blk_grown (g := gb918) (o := .cells #[.int .i64 a1_0, .int .i64 a1_1, .int .i64 a1_2, .int .i64 a1_3] 81 (0, 0)) (by (with_reducible repeat (first | refine blk_drewN ?_ _ | refine blk_drew ?_ | refine blk_alloc ?_ _)); exact BK918.out) hg (Kd.R_ne HO_8.out BK918.out (by decide))); have n6_ := Aside0.mk (blk_grown (g := gb929) (o := .cells #[.slice Ao20 t926.length co20] 163 (0, 0)) (by (with_reducible repeat (first | refine blk_drewN ?_ _ | refine blk_drew ?_ | refine blk_alloc ?_ _)); exact BK929.out) hg (Kd.R_ne HO_8.out BK929.out (by decide))); have n7_ := Aside0.mk (hb); have n8_ := Aside0.mk (ho); clear HO_7; clear HO_10; clear HO_14; clear HO_930000; clear BK917; clear BK918; clear BK929; clear HB; clear HO_8; have HO_7 := n0_; have HO_10 := n1_; have HO_14 := n2_; have HO_930000 := n3_; have BK917 := n4_; have BK918 := n5_; have BK929 := n6_; have HB := n7_; have HO949 := n8_; clear n0_ n1_ n2_ n3_ n4_ n5_ n6_ n7_ n8_; clear ho hb hg hat))
                          go_loopg [7, 11, 16] kj31 (fun kq v7 v11 v16 w' => ∃ (x7_3 : List Int) (x11_3 : Int) (x16_3 : Int), v11 = .int .i64 x11_3 ∧ v16 = .int .i64 x16_3 ∧ Aside0 (spec_FreeList.l1 kq x7_3 y947 y946 x11_3 t935 x16_3 t926 = some (r1, r2, r3)) ∧ Aside0 (kq ≤ kj31) ∧ Aside0 (Kd.R (Kd.int .i64) 3 w' w.heap.size (fun k_ => some k_ ≠ (v948 : Value).ownBlock) v7 x7_3) ∧ Aside0 (Kd.R (Kd.int .i64) 3 w' w.heap.size (fun k_ => some k_ ≠ (v7 : Value).ownBlock) v948 y947) ∧ Aside0 (Kd.R Kd.bool 4 w' w.heap.size (fun _ => True) (.slice (some ⟨go56, 0, none⟩) x10_1.length co56) y946) ∧ Aside0 (Kd.R (Kd.int .u8) 5 w' w.heap.size (fun _ => True) v936 t935) ∧ Aside0 (Kd.N (Kd.slice 5 (Kd.int .u8)) 22 w' w.heap.size (fun k_ => some k_ ≠ (v7 : Value).ownBlock ∧ some k_ ≠ (v948 : Value).ownBlock ∧ some k_ ≠ ((.slice (some ⟨go56, 0, none⟩) x10_1.length co56) : Value).ownBlock ∧ some k_ ≠ (v936 : Value).ownBlock ∧ k_ ≠ gb917 ∧ k_ ≠ gb918 ∧ k_ ≠ gb929) (.slice Ao20 t926.length co20) t926) ∧ Aside0 (w'.heap[gb917]? = some (.cells #[(.slice A0_0 l0_0.length c0_0), (.slice A0_1 l0_1.length c0_1)] 44 (0, 0))) ∧ Aside0 (w'.heap[gb918]? = some (.cells #[.int .i64 a1_0, .int .i64 a1_1, .int .i64 a1_2, .int .i64 a1_3] 81 (0, 0))) ∧ Aside0 (w'.heap[gb929]? = some (.cells #[(.slice Ao20 t926.length co20)] 163 (0, 0))) ∧ Aside0 (Below w.heap.size w w'))
                          case atStart => exact ⟨(x7_1), (x11_1), (4), (by first | rfl | (simp; done) | (simp [*]; done)), (by first | rfl | (simp; done) | (simp [*]; done)), H', ⟨Nat.le_refl _⟩, ⟨by (with_reducible repeat (first | apply Kd.R_alloc | apply Kd.R_drewN | apply Kd.R_drew)); exact Kd.R_mono HO_7.out (fun _ hk => hk.2)⟩, ⟨by (with_reducible repeat (first | apply Kd.R_alloc | apply Kd.R_drewN | apply Kd.R_drew)); exact HO949.out⟩, ⟨by (with_reducible repeat (first | apply Kd.R_alloc | apply Kd.R_drewN | apply Kd.R_drew)); exact HO_10.out⟩, ⟨by (with_reducible repeat (first | apply Kd.R_alloc | apply Kd.R_drewN | apply Kd.R_drew)); exact HO_14.out⟩, ⟨by (with_reducible repeat (first | apply Kd.N_alloc | apply Kd.N_drewN | apply Kd.N_drew)); exact Kd.N_mono HO_930000.out (fun _ hk => ⟨hk.1.1, ⟨hk.2, ⟨hk.1.2.1, ⟨hk.1.2.2.1, ⟨hk.1.2.2.2.1, ⟨hk.1.2.2.2.2.1, hk.1.2.2.2.2.2⟩⟩⟩⟩⟩⟩)⟩, ⟨by (with_reducible repeat (first | refine blk_drewN ?_ _ | refine blk_drew ?_ | refine blk_alloc ?_ _)); exact BK917.out⟩, ⟨by (with_reducible repeat (first | refine blk_drewN ?_ _ | refine blk_drew ?_ | refine blk_alloc ?_ _)); exact BK918.out⟩, ⟨by (with_reducible repeat (first | refine blk_drewN ?_ _ | refine blk_drew ?_ | refine blk_alloc ?_ _)); exact BK929.out⟩, ⟨by repeat (first | (with_reducible first | exact HB.out | apply below_alloc | apply pw_below_drewN | apply below_drew1 | refine below_set ?_ GE917.out | refine below_set ?_ GE918.out | refine below_set ?_ GE929.out) | exact HB.out)⟩⟩
                          case round =>
                            clear H'
                            try clear c1
                            try clear c2
                            try clear p2
                            try clear c3
                            try clear c4
                            try clear q4
                            try clear c5
                            try clear p5
                            try clear q5
                            try clear hx5
                            try clear hf5
                            try clear c6
                            try clear c7
                            try clear c7b0
                            try clear c7b1
                            try clear c8
                            try clear c8b0
                            try clear c8b1
                            try clear p9
                            try clear q9
                            try clear hx9
                            try clear c11
                            try clear c12
                            try clear c15
                            try clear c22
                            try clear c23
                            try clear c30
                            try clear c30b0
                            try clear c30b1
                            try clear c33
                            try clear c34
                            try clear c37
                            try clear c38
                            try clear c38b0
                            try clear c38b1
                            try clear c39
                            try clear c39b0
                            try clear c40
                            try clear c40b0
                            try clear q41
                            try clear c42
                            try clear c44
                            try clear c44b0
                            try clear c44b1
                            try clear c49
                            try clear c54
                            try clear c54b0
                            try clear c55
                            try clear c55b0
                            try clear p56
                            try clear q56
                            try clear hx56
                            try clear hf56
                            try clear c57
                            try clear hcz16_0
                            try clear hcz16_1
                            try clear hcz18_0
                            try clear hcz18_1
                            try clear hcz24_0
                            try clear hcz25_0
                            try clear hcz25_1
                            try clear hcz29_0
                            try clear hcz29_1
                            try clear hcz29_2
                            try clear hcz29_3
                            try clear hcz35_0
                            try clear hfz16_0
                            try clear hfz16_1
                            try clear hfz18_0
                            try clear hfz18_1
                            try clear hfz24_0
                            try clear hfz25_0
                            try clear hfz25_1
                            try clear hfz29_0
                            try clear hfz29_1
                            try clear hfz29_2
                            try clear hfz29_3
                            try clear hfz35_0
                            try clear hx56_0
                            try clear hx939_0
                            try clear p2
                            try clear p56
                            try clear p9
                            try clear p939
                            try clear q4
                            try clear q41
                            try clear q56
                            try clear q9
                            try clear q939
                            obtain ⟨x7_3, x11_3, x16_3, rfl, rfl, HA, HK3, HO_7, HO_8, HO_10, HO_14, HO_930000, BK917, BK918, BK929, HB⟩ := hrel
                            have hl10_3 := (Kd.R_reads' HO_10.out).1
                            rw [hl10_3] at HO_10
                            (try simp only [hl10_3])
                            (try simp only [hl10_3] at BK917)
                            (try simp only [hl10_3] at BK918)
                            (try simp only [hl10_3] at BK929)
                            (try simp only [hl10_3] at HO_7)
                            (try simp only [hl10_3] at HO_8)
                            (try simp only [hl10_3] at HO_14)
                            (try simp only [hl10_3] at HO_930000)
                            cases gk with
                            | zero => exact absurd HA.out (by simp [spec_FreeList.l1])
                            | succ k3 =>
                              have H := HA.out
                              clear HA
                              simp only [spec_FreeList.l1] at H
                              by_cases c61 : x16_3 < (t935.length : Int)
                              · rw [if_pos c61] at H
                                have c61b0 : decide (x16_3 < (t935.length : Int)) = true := decide_eq_true c61
                                clear c61
                                by_cases c62 : 0 ≤ x16_3
                                · rw [if_pos c62] at H
                                  have c62b0 := eq_true c62
                                  have c62b1 : decide (0 ≤ x16_3) = true := decide_eq_true c62
                                  clear c62
                                  by_cases c63 : x16_3 ≤ (wrap64 (x16_3 + 4))
                                  · rw [if_pos c63] at H
                                    have c63b0 := eq_true c63
                                    have c63b1 : decide (x16_3 ≤ (wrap64 (x16_3 + 4))) = true := decide_eq_true c63
                                    by_cases c64 : (wrap64 (x16_3 + 4)) ≤ (t935.length : Int)
                                    · rw [if_pos c64] at H
                                      have c64b0 := eq_true c64
                                      have c64b1 : decide ((wrap64 (x16_3 + 4)) ≤ (t935.length : Int)) = true := decide_eq_true c64
                                      obtain ⟨y950, hy950⟩ : ∃ y_ : List Int, y_ = ((t935.take ((wrap64 (x16_3 + 4)) : Int).toNat).drop (x16_3 : Int).toNat) := ⟨_, rfl⟩
                                      replace H : ((spec_l2Low.f k3 y950).bind fun t955 => (if (x7_3.length : Int) > 0 then (if t955 ≤ x11_3 then (some ((([] : List Int)), (([] : List Int)), false)) else (if x7_3.length < 17592186044416 then (spec_FreeList.l1 k3 (x7_3 ++ [t955]) y947 y946 t955 t935 (wrap64 (x16_3 + 4)) t926) else (none))) else (if x7_3.length < 17592186044416 then (spec_FreeList.l1 k3 (x7_3 ++ [t955]) y947 y946 t955 t935 (wrap64 (x16_3 + 4)) t926) else (none)))) = some (r1, r2, r3) := by first | (rw [hy950]; with_reducible exact H) | (have H2_ := (Option.bind_some _ _).symm.trans H; rw [hy950]; with_reducible exact H2_) | (have H2_ := (Option.bind_some _ _).symm.trans H; with_reducible exact H2_) | with_reducible exact H | (rw [hy950]; exact H) | exact H
                                      have Ny950 := Aside0.mk hy950
                                      clear hy950
                                      replace H := Option.bind_eq_some_iff.mp H
                                      obtain ⟨t955, A650, H⟩ := H
                                      replace H : (if (x7_3.length : Int) > 0 then (if t955 ≤ x11_3 then (some ((([] : List Int)), (([] : List Int)), false)) else (if x7_3.length < 17592186044416 then (spec_FreeList.l1 k3 (x7_3 ++ [t955]) y947 y946 t955 t935 (wrap64 (x16_3 + 4)) t926) else (none))) else (if x7_3.length < 17592186044416 then (spec_FreeList.l1 k3 (x7_3 ++ [t955]) y947 y946 t955 t935 (wrap64 (x16_3 + 4)) t926) else (none))) = some (r1, r2, r3) := H
                                      have A65 := Aside0.mk A650
                                      clear A650
                                      by_cases c66 : (x7_3.length : Int) > 0
                                      · rw [if_pos c66] at H
                                        have c66b0 : decide (0 < (x7_3.length : Int)) = true := decide_eq_true c66
                                        have c66b1 : decide (0 < x7_3.length) = true := decide_eq_true (by omega)
                                        clear c66
                                        by_cases c67 : t955 ≤ x11_3
                                        · rw [if_pos c67] at H
                                          have c67b0 : decide (t955 ≤ x11_3) = true := decide_eq_true c67
                                          clear c67
                                          obtain ⟨y956, hy956⟩ : ∃ y_ : List Int, y_ = (([] : List Int)) := ⟨_, rfl⟩
                                          replace H : (some (y956, (([] : List Int)), false)) = some (r1, r2, r3) := by first | (rw [hy956]; with_reducible exact H) | (have H2_ := (Option.bind_some _ _).symm.trans H; rw [hy956]; with_reducible exact H2_) | (have H2_ := (Option.bind_some _ _).symm.trans H; with_reducible exact H2_) | with_reducible exact H | (rw [hy956]; exact H) | exact H
                                          have Ny956 := Aside0.mk hy956
                                          clear hy956
                                          obtain ⟨y959, hy959⟩ : ∃ y_ : List Int, y_ = (([] : List Int)) := ⟨_, rfl⟩
                                          replace H : (some (y956, y959, false)) = some (r1, r2, r3) := by first | (rw [hy959]; with_reducible exact H) | (have H2_ := (Option.bind_some _ _).symm.trans H; rw [hy959]; with_reducible exact H2_) | (have H2_ := (Option.bind_some _ _).symm.trans H; with_reducible exact H2_) | with_reducible exact H | (rw [hy959]; exact H) | exact H
                                          have Ny959 := Aside0.mk hy959
                                          clear hy959
                                          simp only [Option.some.injEq, Prod.mk.injEq] at H
                                          obtain ⟨rfl, rfl, rfl⟩ := H
                                          obtain ⟨Ao68, co68, eo68⟩ := Kd.R_slice HO_14.out
                                          subst eo68
                                          have q69 : ((wrap64 (x16_3 + 4)) : Int) ≤ ((t935.length : Int) : Int) := of_decide_eq_true (by first | (with_reducible assumption) | assumption)
                                          obtain ⟨i069, hi069, _, hsz69, _⟩ := info_parts info5
                                          have hroom69 : t935.length ≤ co68 := (Kd.R_reads' HO_14.out).2.1
                                          have hC69 : Kd.F (Kd.int .u8) _ _ Ao68 t935.length t935 := (Kd.V_at (base := w.heap.size) (Kd.R_V (Kd.R_types (Kd.R_types (Kd.R_types (Kd.R_apart' (Kd.R_apart' (Kd.R_apart' (Kd.R_apart' (HO_14.out) (Kd.R_typed HO_7.out) (by decide)) (Kd.R_typed HO_8.out) (by decide)) (Kd.R_typed HO_10.out) (by decide)) (Kd.N_typed HO_930000.out) (by decide)) BK917.out (by decide)) BK918.out (by decide)) BK929.out (by decide)))).2.2
                                          have ql69 : (x16_3 : Int) ≤ ((wrap64 (x16_3 + 4)) : Int) := of_decide_eq_true (by first | (with_reducible assumption) | assumption)
                                          have q069 : (0 : Int) ≤ (x16_3 : Int) := of_decide_eq_true (by first | (with_reducible assumption) | assumption)
                                          have hcut69 := cut_mid (P := Try.prog) 22 5 .i64 .i64 Try.underlying22 hi069 1 hsz69 Ao68 t935.length co68 x16_3 (wrap64 (x16_3 + 4)) q069 ql69 q69 hroom69
                                          have hr69 := Kd.F_mid (lo := (x16_3 : Int).toNat) (hi := ((wrap64 (x16_3 + 4)) : Int).toNat) (c := co68) hC69 (by omega) (by omega) hroom69
                                          obtain ⟨A69, hA69⟩ : ∃ A1, A1 = (if co68 = (x16_3 : Int).toNat then Ao68 else (Ao68 : Option Addr).map (·.add ((x16_3 : Int).toNat * 1))) := ⟨_, rfl⟩
                                          obtain ⟨c69, hc69⟩ : ∃ c1, c1 = co68 - (x16_3 : Int).toNat := ⟨_, rfl⟩
                                          have hy69 : y950.length = ((wrap64 (x16_3 + 4)) : Int).toNat - (x16_3 : Int).toNat := (by rw [Ny950.out, List.length_drop, List.length_take] <;> omega)
                                          rw [show ((t935).take ((wrap64 (x16_3 + 4)) : Int).toNat).drop (x16_3 : Int).toNat = y950 from Ny950.out.symm] at hr69
                                          replace hr69 : Kd.F (Kd.int .u8) _ _ A69 y950.length y950 := (by rw [hA69]; exact hr69)
                                          rw [← hy69, ← hA69, ← hc69] at hcut69
                                          have HO954 := Aside0.mk (show Kd.V (Kd.int .u8) 5 _ w.heap.size _ (.slice A69 y950.length c69) y950 from Kd.V_mk (by rw [hy69, hc69]; exact Nat.sub_le_sub_right (Nat.le_trans (by omega) hroom69) _) hr69)
                                          have HC954 := Aside0.mk (show y950.length ≤ c69 from by rw [hy69, hc69]; exact Nat.sub_le_sub_right (Nat.le_trans (by omega) hroom69) _)
                                          clear hr69 hC69 hroom69 hi069 hsz69 hc69
                                          have KY69 := Aside0.mk hy69
                                          have KA69 := Aside0.mk hA69
                                          clear hy69 hA69
                                          replace q69 := eq_true q69
                                          go_wp2_with (first | ((with_reducible refine gate_callee (f := 67) rfl ?_); refine goesL_ (some 85) rfl rfl Try.func67 (by kernel_rfl) rfl #[.slice A69 y950.length c69] rfl (by (try simp only [List.map_toArray, List.map_cons, List.map_nil]); first | done | rfl | (simp only [List.length_drop, List.length_take]; rfl)) ?_; (with_reducible refine (spec_l2Low.calls k3 _ _ y950 t955 _ ?side1 ?side2 A65.out).mono ?_); (case side1 => repeat (first | exact (Kd.V_reads' HO954.out).2.2 | (with_reducible refine Kd.C_alloc ?_ _) | (with_reducible refine Kd.C_drewN ?_ _) | (with_reducible refine Kd.C_drew ?_))); (case side2 => exact (Kd.V_reads' HO954.out).2.1); rintro e w' ⟨rfl, ⟨nd, rfl⟩⟩; refine ⟨_, rfl, ?_⟩; obtain ⟨Ao70, co70, eo70⟩ := Kd.R_slice HO_7.out; subst eo70) | ((with_reducible refine gate_dst (N := 94) rfl ?_); (try (refine gate_guard (by rfl) ?_; dsimp only)); refine Kd.R_lit (Kd.int .i64) _ 3 ?hg (N := 94) ?hd (xs := ([] : List Int)) (inner := []) (ok := fun _ => True) (okp := fun _ => True) ?hr ?hp (fun _ hk => hk) trivial (Below.refl _ _) (Nat.le_refl _) (by simp) ?_; (case hd => rfl); (case hg => rfl); (case hr => first | (go_simp; done) | (go_simp; rfl)); (case hp => exact (Reps.none _ _)); intro v957 w71 ho72 hb hg_ hnew_; clear hg_ hnew_; (first | rw [← Ny956.out] at ho72 | (simp only [Int.reduceToNat] at ho72; rw [← Ny956.out] at ho72)); have n0_ := Aside0.mk (Kd.R_elder' (by (with_reducible repeat (first | apply Kd.R_alloc | apply Kd.R_drewN | apply Kd.R_drew)); exact HO_7.out) (Kd.R_base ho72) hb); have n1_ := Aside0.mk (Kd.R_elder' (by (with_reducible repeat (first | apply Kd.R_alloc | apply Kd.R_drewN | apply Kd.R_drew)); exact HO_8.out) (Kd.R_base ho72) hb); have n2_ := Aside0.mk (Kd.R_below (by (with_reducible repeat (first | apply Kd.R_alloc | apply Kd.R_drewN | apply Kd.R_drew)); exact HO_10.out) hb); have n3_ := Aside0.mk (Kd.R_below (by (with_reducible repeat (first | apply Kd.R_alloc | apply Kd.R_drewN | apply Kd.R_drew)); exact HO_14.out) hb); have n4_ := Aside0.mk (Kd.N_elder' (by (with_reducible repeat (first | apply Kd.N_alloc | apply Kd.N_drewN | apply Kd.N_drew)); exact HO_930000.out) (Kd.R_base ho72) hb); have n5_ := Aside0.mk (Kd.V_elder' (by (with_reducible repeat (first | apply Kd.V_alloc | apply Kd.V_drewN | apply Kd.V_drew)); exact HO954.out) (Kd.R_base ho72) hb); have n6_ := Aside0.mk (Kd.R_lower (Kd.R_new' (Kd.R_new' ho72 (Kd.R_lt (by (with_reducible repeat (first | apply Kd.R_alloc | apply Kd.R_drewN | apply Kd.R_drew)); exact HO_7.out))) (Kd.R_lt (by (with_reducible repeat (first | apply Kd.R_alloc | apply Kd.R_drewN | apply Kd.R_drew)); exact HO_8.out))) (below_size (by repeat (first | (with_reducible first | exact HB.out | apply below_alloc | apply pw_below_drewN | apply below_drew1 | refine below_set ?_ GE917.out | refine below_set ?_ GE918.out | refine below_set ?_ GE929.out) | exact HB.out)))); have n7_ := Aside0.mk (blk_below (g := gb917) (o := .cells #[.slice A0_0 l0_0.length c0_0, .slice A0_1 l0_1.length c0_1] 44 (0, 0)) (by (with_reducible repeat (first | refine blk_drewN ?_ _ | refine blk_drew ?_ | refine blk_alloc ?_ _)); exact BK917.out) hb); have n8_ := Aside0.mk (blk_below (g := gb918) (o := .cells #[.int .i64 a1_0, .int .i64 a1_1, .int .i64 a1_2, .int .i64 a1_3] 81 (0, 0)) (by (with_reducible repeat (first | refine blk_drewN ?_ _ | refine blk_drew ?_ | refine blk_alloc ?_ _)); exact BK918.out) hb); have n9_ := Aside0.mk (blk_below (g := gb929) (o := .cells #[.slice Ao20 t926.length co20] 163 (0, 0)) (by (with_reducible repeat (first | refine blk_drewN ?_ _ | refine blk_drew ?_ | refine blk_alloc ?_ _)); exact BK929.out) hb); have n10_ := Aside0.mk (below_step (by repeat (first | (with_reducible first | exact HB.out | apply below_alloc | apply pw_below_drewN | apply below_drew1 | refine below_set ?_ GE917.out | refine below_set ?_ GE918.out | refine below_set ?_ GE929.out) | exact HB.out)) hb); clear HO_7; clear HO_8; clear HO_10; clear HO_14; clear HO_930000; clear HO954; clear BK917; clear BK918; clear BK929; clear HB; have HO_7 := n0_; have HO_8 := n1_; have HO_10 := n2_; have HO_14 := n3_; have HO_930000 := n4_; have HO954 := n5_; have HO958 := n6_; have BK917 := n7_; have BK918 := n8_; have BK929 := n9_; have HB := n10_; clear n0_ n1_ n2_ n3_ n4_ n5_ n6_ n7_ n8_ n9_ n10_; clear hb ho72) | ((with_reducible refine gate_dst (N := 95) rfl ?_); (try (refine gate_guard (by rfl) ?_; dsimp only)); refine Kd.R_lit (Kd.int .i64) _ 3 ?hg (N := 95) ?hd (xs := ([] : List Int)) (inner := []) (ok := fun _ => True) (okp := fun _ => True) ?hr ?hp (fun _ hk => hk) trivial (Below.refl _ _) (Nat.le_refl _) (by simp) ?_; (case hd => rfl); (case hg => rfl); (case hr => first | (go_simp; done) | (go_simp; rfl)); (case hp => exact (Reps.none _ _)); intro v960 w73 ho74 hb hg_ hnew_; clear hg_ hnew_; (first | rw [← Ny959.out] at ho74 | (simp only [Int.reduceToNat] at ho74; rw [← Ny959.out] at ho74)); have n0_ := Aside0.mk (Kd.R_elder' (by (with_reducible repeat (first | apply Kd.R_alloc | apply Kd.R_drewN | apply Kd.R_drew)); exact HO_7.out) (Kd.R_base ho74) hb); have n1_ := Aside0.mk (Kd.R_elder' (by (with_reducible repeat (first | apply Kd.R_alloc | apply Kd.R_drewN | apply Kd.R_drew)); exact HO_8.out) (Kd.R_base ho74) hb); have n2_ := Aside0.mk (Kd.R_below (by (with_reducible repeat (first | apply Kd.R_alloc | apply Kd.R_drewN | apply Kd.R_drew)); exact HO_10.out) hb); have n3_ := Aside0.mk (Kd.R_below (by (with_reducible repeat (first | apply Kd.R_alloc | apply Kd.R_drewN | apply Kd.R_drew)); exact HO_14.out) hb); have n4_ := Aside0.mk (Kd.N_elder' (by (with_reducible repeat (first | apply Kd.N_alloc | apply Kd.N_drewN | apply Kd.N_drew)); exact HO_930000.out) (Kd.R_base ho74) hb); have n5_ := Aside0.mk (Kd.V_elder' (by (with_reducible repeat (first | apply Kd.V_alloc | apply Kd.V_drewN | apply Kd.V_drew)); exact HO954.out) (Kd.R_base ho74) hb); have n6_ := Aside0.mk (Kd.R_elder' (by (with_reducible repeat (first | apply Kd.R_alloc | apply Kd.R_drewN | apply Kd.R_drew)); exact HO958.out) (Kd.R_base ho74) hb); have n7_ := Aside0.mk (Kd.R_lower (Kd.R_new' (Kd.R_new' (Kd.R_new' ho74 (Kd.R_lt (by (with_reducible repeat (first | apply Kd.R_alloc | apply Kd.R_drewN | apply Kd.R_drew)); exact HO_7.out))) (Kd.R_lt (by (with_reducible repeat (first | apply Kd.R_alloc | apply Kd.R_drewN | apply Kd.R_drew)); exact HO_8.out))) (Kd.R_lt (by (with_reducible repeat (first | apply Kd.R_alloc | apply Kd.R_drewN | apply Kd.R_drew)); exact HO958.out))) (below_size (by repeat (first | (with_reducible first | exact HB.out | apply below_alloc | apply pw_below_drewN | apply below_drew1 | refine below_set ?_ GE917.out | refine below_set ?_ GE918.out | refine below_set ?_ GE929.out) | exact HB.out)))); have n8_ := Aside0.mk (blk_below (g := gb917) (o := .cells #[.slice A0_0 l0_0.length c0_0, .slice A0_1 l0_1.length c0_1] 44 (0, 0)) (by (with_reducible repeat (first | refine blk_drewN ?_ _ | refine blk_drew ?_ | refine blk_alloc ?_ _)); exact BK917.out) hb); have n9_ := Aside0.mk (blk_below (g := gb918) (o := .cells #[.int .i64 a1_0, .int .i64 a1_1, .int .i64 a1_2, .int .i64 a1_3] 81 (0, 0)) (by (with_reducible repeat (first | refine blk_drewN ?_ _ | refine blk_drew ?_ | refine blk_alloc ?_ _)); exact BK918.out) hb); have n10_ := Aside0.mk (blk_below (g := gb929) (o := .cells #[.slice Ao20 t926.length co20] 163 (0, 0)) (by (with_reducible repeat (first | refine blk_drewN ?_ _ | refine blk_drew ?_ | refine blk_alloc ?_ _)); exact BK929.out) hb); have n11_ := Aside0.mk (below_step (by repeat (first | (with_reducible first | exact HB.out | apply below_alloc | apply pw_below_drewN | apply below_drew1 | refine below_set ?_ GE917.out | refine below_set ?_ GE918.out | refine below_set ?_ GE929.out) | exact HB.out)) hb); clear HO_7; clear HO_8; clear HO_10; clear HO_14; clear HO_930000; clear HO954; clear HO958; clear BK917; clear BK918; clear BK929; clear HB; have HO_7 := n0_; have HO_8 := n1_; have HO_10 := n2_; have HO_14 := n3_; have HO_930000 := n4_; have HO954 := n5_; have HO958 := n6_; have HO961 := n7_; have BK917 := n8_; have BK918 := n9_; have BK929 := n10_; have HB := n11_; clear n0_ n1_ n2_ n3_ n4_ n5_ n6_ n7_ n8_ n9_ n10_ n11_; clear hb ho74))
                                          go_ret3
                                          exact ⟨_, _, by first | rfl | (simp [errW_none, errW_some] <;> rfl) | (simp [*, errW_none, errW_some] <;> rfl), by (with_reducible repeat (first | apply Kd.R_alloc | apply Kd.R_drewN | apply Kd.R_drew)); exact Kd.R_mono HO958.out (fun _ hk => hk.2), by (with_reducible repeat (first | apply Kd.R_alloc | apply Kd.R_drewN | apply Kd.R_drew)); exact Kd.R_mono HO961.out (fun _ hk => hk.2), by repeat (first | (with_reducible first | exact HB.out | apply below_alloc | apply pw_below_drewN | apply below_drew1 | refine below_set ?_ GE917.out | refine below_set ?_ GE918.out | refine below_set ?_ GE929.out) | exact HB.out)⟩
                                        · rw [if_neg c67] at H
                                          have c67b0 : decide (t955 ≤ x11_3) = false := decide_eq_false c67
                                          clear c67
                                          by_cases c75 : x7_3.length < 17592186044416
                                          · rw [if_pos c75] at H
                                            have LMc75 := Aside0.mk c75
                                            clear c75
                                            obtain ⟨y962, hy962⟩ : ∃ y_ : List Int, y_ = (x7_3 ++ [t955]) := ⟨_, rfl⟩
                                            replace H : (spec_FreeList.l1 k3 y962 y947 y946 t955 t935 (wrap64 (x16_3 + 4)) t926) = some (r1, r2, r3) := by first | (rw [hy962]; with_reducible exact H) | (have H2_ := (Option.bind_some _ _).symm.trans H; rw [hy962]; with_reducible exact H2_) | (have H2_ := (Option.bind_some _ _).symm.trans H; with_reducible exact H2_) | with_reducible exact H | (rw [hy962]; exact H) | exact H
                                            have Ny962 := Aside0.mk hy962
                                            clear hy962
                                            have H' := Aside0.mk H
                                            clear H
                                            obtain ⟨Ao76, co76, eo76⟩ := Kd.R_slice HO_14.out
                                            subst eo76
                                            have q77 : ((wrap64 (x16_3 + 4)) : Int) ≤ ((t935.length : Int) : Int) := of_decide_eq_true (by first | (with_reducible assumption) | assumption)
                                            obtain ⟨i077, hi077, _, hsz77, _⟩ := info_parts info5
                                            have hroom77 : t935.length ≤ co76 := (Kd.R_reads' HO_14.out).2.1
                                            have hC77 : Kd.F (Kd.int .u8) _ _ Ao76 t935.length t935 := (Kd.V_at (base := w.heap.size) (Kd.R_V (Kd.R_types (Kd.R_types (Kd.R_types (Kd.R_apart' (Kd.R_apart' (Kd.R_apart' (Kd.R_apart' (HO_14.out) (Kd.R_typed HO_7.out) (by decide)) (Kd.R_typed HO_8.out) (by decide)) (Kd.R_typed HO_10.out) (by decide)) (Kd.N_typed HO_930000.out) (by decide)) BK917.out (by decide)) BK918.out (by decide)) BK929.out (by decide)))).2.2
                                            have ql77 : (x16_3 : Int) ≤ ((wrap64 (x16_3 + 4)) : Int) := of_decide_eq_true (by first | (with_reducible assumption) | assumption)
                                            have q077 : (0 : Int) ≤ (x16_3 : Int) := of_decide_eq_true (by first | (with_reducible assumption) | assumption)
                                            have hcut77 := cut_mid (P := Try.prog) 22 5 .i64 .i64 Try.underlying22 hi077 1 hsz77 Ao76 t935.length co76 x16_3 (wrap64 (x16_3 + 4)) q077 ql77 q77 hroom77
                                            have hr77 := Kd.F_mid (lo := (x16_3 : Int).toNat) (hi := ((wrap64 (x16_3 + 4)) : Int).toNat) (c := co76) hC77 (by omega) (by omega) hroom77
                                            obtain ⟨A77, hA77⟩ : ∃ A1, A1 = (if co76 = (x16_3 : Int).toNat then Ao76 else (Ao76 : Option Addr).map (·.add ((x16_3 : Int).toNat * 1))) := ⟨_, rfl⟩
                                            obtain ⟨c77, hc77⟩ : ∃ c1, c1 = co76 - (x16_3 : Int).toNat := ⟨_, rfl⟩
                                            have hy77 : y950.length = ((wrap64 (x16_3 + 4)) : Int).toNat - (x16_3 : Int).toNat := (by rw [Ny950.out, List.length_drop, List.length_take] <;> omega)
                                            rw [show ((t935).take ((wrap64 (x16_3 + 4)) : Int).toNat).drop (x16_3 : Int).toNat = y950 from Ny950.out.symm] at hr77
                                            replace hr77 : Kd.F (Kd.int .u8) _ _ A77 y950.length y950 := (by rw [hA77]; exact hr77)
                                            rw [← hy77, ← hA77, ← hc77] at hcut77
                                            have HO954 := Aside0.mk (show Kd.V (Kd.int .u8) 5 _ w.heap.size _ (.slice A77 y950.length c77) y950 from Kd.V_mk (by rw [hy77, hc77]; exact Nat.sub_le_sub_right (Nat.le_trans (by omega) hroom77) _) hr77)
                                            have HC954 := Aside0.mk (show y950.length ≤ c77 from by rw [hy77, hc77]; exact Nat.sub_le_sub_right (Nat.le_trans (by omega) hroom77) _)
                                            clear hr77 hC77 hroom77 hi077 hsz77 hc77
                                            have KY77 := Aside0.mk hy77
                                            have KA77 := Aside0.mk hA77
                                            clear hy77 hA77
                                            replace q77 := eq_true q77
                                            go_wp2_with (first | ((with_reducible refine gate_callee (f := 67) rfl ?_); refine goesL_ (some 85) rfl rfl Try.func67 (by kernel_rfl) rfl #[.slice A77 y950.length c77] rfl (by (try simp only [List.map_toArray, List.map_cons, List.map_nil]); first | done | rfl | (simp only [List.length_drop, List.length_take]; rfl)) ?_; (with_reducible refine (spec_l2Low.calls k3 _ _ y950 t955 _ ?side1 ?side2 A65.out).mono ?_); (case side1 => repeat (first | exact (Kd.V_reads' HO954.out).2.2 | (with_reducible refine Kd.C_alloc ?_ _) | (with_reducible refine Kd.C_drewN ?_ _) | (with_reducible refine Kd.C_drew ?_))); (case side2 => exact (Kd.V_reads' HO954.out).2.1); rintro e w' ⟨rfl, ⟨nd, rfl⟩⟩; refine ⟨_, rfl, ?_⟩; obtain ⟨Ao78, co78, eo78⟩ := Kd.R_slice HO_7.out; subst eo78) | ((with_reducible refine gate_builtin (b := .append) (xs := #[.tmp 97, .tmp 99]) rfl ?_); (try (refine gate_guard (by rfl) ?_; dsimp only)); at_builtin; refine Kd.R_append (Kd.int .i64) (w0 := w) w.heap.size rfl (.tmp 97) (.tmp 99) 91 3 (.int .i64 0) 8 rfl Try.underlying91 info3 rfl (by decide) (by omega) (.slice Ao78 x7_3.length co78) x7_3 t955 [.int .i64 t955] (fun k_ => some k_ ≠ (v948 : Value).ownBlock) (fun _ => False) rfl rfl ?aP (fun _ hk => hk.elim) ?aF ?aO ?aB ?aS ?aL ?_; (case aP => exact rfl); (case aB => exact (by repeat (first | (with_reducible first | exact HB.out | apply below_alloc | apply pw_below_drewN | apply below_drew1 | refine below_set ?_ GE917.out | refine below_set ?_ GE918.out | refine below_set ?_ GE929.out) | exact HB.out))); (case aF => exact (fun k_ hk => Kd.fresh' (Kd.R_lt (by (with_reducible repeat (first | apply Kd.R_alloc | apply Kd.R_drewN | apply Kd.R_drew)); exact HO_8.out)) k_ hk)); (case aO => exact (by (with_reducible repeat (first | apply Kd.R_alloc | apply Kd.R_drewN | apply Kd.R_drew)); exact HO_7.out)); (case aS => exact (below_size (by repeat (first | (with_reducible first | exact HB.out | apply below_alloc | apply pw_below_drewN | apply below_drew1 | refine below_set ?_ GE917.out | refine below_set ?_ GE918.out | refine below_set ?_ GE929.out) | exact HB.out)))); (case aL => have := LMc75.out; omega); intro v963 w79 ho hb hg hat; rw [← Ny962.out] at ho; have n0_ := Aside0.mk (Kd.R_after (ok := (fun _ => True)) (by (with_reducible repeat (first | apply Kd.R_alloc | apply Kd.R_drewN | apply Kd.R_drew)); exact Kd.R_mono HO_8.out (fun _ hk => ⟨trivial, hk⟩)) hg hat); have n1_ := Aside0.mk (Kd.R_over' (by (with_reducible repeat (first | apply Kd.R_alloc | apply Kd.R_drewN | apply Kd.R_drew)); exact HO_10.out) (Kd.R_typed (by (with_reducible repeat (first | apply Kd.R_alloc | apply Kd.R_drewN | apply Kd.R_drew)); exact HO_7.out)) (by decide) hg); have n2_ := Aside0.mk (Kd.R_over' (by (with_reducible repeat (first | apply Kd.R_alloc | apply Kd.R_drewN | apply Kd.R_drew)); exact HO_14.out) (Kd.R_typed (by (with_reducible repeat (first | apply Kd.R_alloc | apply Kd.R_drewN | apply Kd.R_drew)); exact HO_7.out)) (by decide) hg); have n3_ := Aside0.mk (Kd.N_afterv (ok := (fun k_ => some k_ ≠ (v948 : Value).ownBlock ∧ some k_ ≠ (.slice (some ⟨go56, 0, none⟩) y946.length co56 : Value).ownBlock ∧ some k_ ≠ (.slice Ao76 t935.length co76 : Value).ownBlock ∧ k_ ≠ gb917 ∧ k_ ≠ gb918 ∧ k_ ≠ gb929)) (by (with_reducible repeat (first | apply Kd.N_alloc | apply Kd.N_drewN | apply Kd.N_drew)); exact Kd.N_mono HO_930000.out (fun _ hk => ⟨⟨hk.2.1, ⟨hk.2.2.1, ⟨hk.2.2.2.1, ⟨hk.2.2.2.2.1, ⟨hk.2.2.2.2.2.1, hk.2.2.2.2.2.2⟩⟩⟩⟩⟩, hk.1⟩)) hg hat); have n4_ := Aside0.mk (blk_grown (g := gb917) (o := .cells #[.slice A0_0 l0_0.length c0_0, .slice A0_1 l0_1.length c0_1] 44 (0, 0)) (by (with_reducible repeat (first | refine blk_drewN ?_ _ | refine blk_drew ?_ | refine blk_alloc ?_ _)); exact BK917.out) hg (Kd.R_ne HO_7.out BK917.out (by decide))); have n5_ := Aside0.mk (blk_grown (g := gb918) (o := .cells #[.int .i64 a1_0, .int .i64 a1_1, .int .i64 a1_2, .int .i64 a1_3] 81 (0, 0)) (by (with_reducible repeat (first | refine blk_drewN ?_ _ | refine blk_drew ?_ | refine blk_alloc ?_ _)); exact BK918.out) hg (Kd.R_ne HO_7.out BK918.out (by decide))); have n6_ := Aside0.mk (blk_grown (g := gb929) (o := .cells #[.slice Ao20 t926.length co20] 163 (0, 0)) (by (with_reducible repeat (first | refine blk_drewN ?_ _ | refine blk_drew ?_ | refine blk_alloc ?_ _)); exact BK929.out) hg (Kd.R_ne HO_7.out BK929.out (by decide))); have n7_ := Aside0.mk (Kd.V_afterv (ok := (fun k_ => some k_ ≠ (v948 : Value).ownBlock ∧ some k_ ≠ (.slice (some ⟨go56, 0, none⟩) y946.length co56 : Value).ownBlock ∧ some k_ ≠ (.slice Ao20 t926.length co20 : Value).ownBlock ∧ k_ ≠ gb917 ∧ k_ ≠ gb918 ∧ k_ ≠ gb929)) (by (with_reducible repeat (first | apply Kd.V_alloc | apply Kd.V_drewN | apply Kd.V_drew)); exact Kd.V_mono HO954.out (fun _ hk => ⟨⟨hk.1.1.1.1.1.2, ⟨hk.1.1.1.1.2, ⟨hk.1.1.1.2, ⟨hk.1.1.2, ⟨hk.1.2, hk.2⟩⟩⟩⟩⟩, hk.1.1.1.1.1.1.2⟩)) hg hat); have n8_ := Aside0.mk (hb); have n9_ := Aside0.mk (ho); clear HO_8; clear HO_10; clear HO_14; clear HO_930000; clear BK917; clear BK918; clear BK929; clear HO954; clear HB; clear HO_7; have HO_8 := n0_; have HO_10 := n1_; have HO_14 := n2_; have HO_930000 := n3_; have BK917 := n4_; have BK918 := n5_; have BK929 := n6_; have HO954 := n7_; have HB := n8_; have HO964 := n9_; clear n0_ n1_ n2_ n3_ n4_ n5_ n6_ n7_ n8_ n9_; clear ho hb hg hat))
                                            (try simp only [← hl10_3])
                                            go_roundg k3
                                            case measure => have := HK1.out; have := HJ31.out; have := HK3.out; omega
                                            case rel => exact ⟨(y962), (t955), (wrap64 (x16_3 + 4)), (by first | rfl | (simp; done) | (simp [*]; done)), (by first | rfl | (simp; done) | (simp [*]; done)), H', ⟨by have := HK1.out; have := HJ31.out; have := HK3.out; omega⟩, ⟨by (try simp only [hl10_3]); (with_reducible repeat (first | apply Kd.R_alloc | apply Kd.R_drewN | apply Kd.R_drew)); exact HO964.out⟩, ⟨by (try simp only [hl10_3]); (with_reducible repeat (first | apply Kd.R_alloc | apply Kd.R_drewN | apply Kd.R_drew)); exact Kd.R_mono HO_8.out (fun _ hk => hk.2)⟩, ⟨by (try simp only [hl10_3]); (with_reducible repeat (first | apply Kd.R_alloc | apply Kd.R_drewN | apply Kd.R_drew)); exact HO_10.out⟩, ⟨by (try simp only [hl10_3]); (with_reducible repeat (first | apply Kd.R_alloc | apply Kd.R_drewN | apply Kd.R_drew)); exact HO_14.out⟩, ⟨by (try simp only [hl10_3]); (with_reducible repeat (first | apply Kd.N_alloc | apply Kd.N_drewN | apply Kd.N_drew)); exact Kd.N_mono HO_930000.out (fun _ hk => ⟨hk.2, ⟨hk.1.1, ⟨hk.1.2.1, ⟨hk.1.2.2.1, ⟨hk.1.2.2.2.1, ⟨hk.1.2.2.2.2.1, hk.1.2.2.2.2.2⟩⟩⟩⟩⟩⟩)⟩, ⟨by (try simp only [hl10_3]); (with_reducible repeat (first | refine blk_drewN ?_ _ | refine blk_drew ?_ | refine blk_alloc ?_ _)); exact BK917.out⟩, ⟨by (try simp only [hl10_3]); (with_reducible repeat (first | refine blk_drewN ?_ _ | refine blk_drew ?_ | refine blk_alloc ?_ _)); exact BK918.out⟩, ⟨by (try simp only [hl10_3]); (with_reducible repeat (first | refine blk_drewN ?_ _ | refine blk_drew ?_ | refine blk_alloc ?_ _)); exact BK929.out⟩, ⟨by repeat (first | (with_reducible first | exact HB.out | apply below_alloc | apply pw_below_drewN | apply below_drew1 | refine below_set ?_ GE917.out | refine below_set ?_ GE918.out | refine below_set ?_ GE929.out) | exact HB.out)⟩⟩
                                          · rw [if_neg c75] at H
                                            exact absurd H (by simp)
                                      · rw [if_neg c66] at H
                                        have c66b0 : decide (0 < (x7_3.length : Int)) = false := decide_eq_false c66
                                        have c66b1 : decide (0 < x7_3.length) = false := decide_eq_false (by omega)
                                        clear c66
                                        by_cases c80 : x7_3.length < 17592186044416
                                        · rw [if_pos c80] at H
                                          have LMc80 := Aside0.mk c80
                                          clear c80
                                          obtain ⟨y965, hy965⟩ : ∃ y_ : List Int, y_ = (x7_3 ++ [t955]) := ⟨_, rfl⟩
                                          replace H : (spec_FreeList.l1 k3 y965 y947 y946 t955 t935 (wrap64 (x16_3 + 4)) t926) = some (r1, r2, r3) := by first | (rw [hy965]; with_reducible exact H) | (have H2_ := (Option.bind_some _ _).symm.trans H; rw [hy965]; with_reducible exact H2_) | (have H2_ := (Option.bind_some _ _).symm.trans H; with_reducible exact H2_) | with_reducible exact H | (rw [hy965]; exact H) | exact H
                                          have Ny965 := Aside0.mk hy965
                                          clear hy965
                                          have H' := Aside0.mk H
                                          clear H
                                          obtain ⟨Ao81, co81, eo81⟩ := Kd.R_slice HO_14.out
                                          subst eo81
                                          have q82 : ((wrap64 (x16_3 + 4)) : Int) ≤ ((t935.length : Int) : Int) := of_decide_eq_true (by first | (with_reducible assumption) | assumption)
                                          obtain ⟨i082, hi082, _, hsz82, _⟩ := info_parts info5
                                          have hroom82 : t935.length ≤ co81 := (Kd.R_reads' HO_14.out).2.1
                                          have hC82 : Kd.F (Kd.int .u8) _ _ Ao81 t935.length t935 := (Kd.V_at (base := w.heap.size) (Kd.R_V (Kd.R_types (Kd.R_types (Kd.R_types (Kd.R_apart' (Kd.R_apart' (Kd.R_apart' (Kd.R_apart' (HO_14.out) (Kd.R_typed HO_7.out) (by decide)) (Kd.R_typed HO_8.out) (by decide)) (Kd.R_typed HO_10.out) (by decide)) (Kd.N_typed HO_930000.out) (by decide)) BK917.out (by decide)) BK918.out (by decide)) BK929.out (by decide)))).2.2
                                          have ql82 : (x16_3 : Int) ≤ ((wrap64 (x16_3 + 4)) : Int) := of_decide_eq_true (by first | (with_reducible assumption) | assumption)
                                          have q082 : (0 : Int) ≤ (x16_3 : Int) := of_decide_eq_true (by first | (with_reducible assumption) | assumption)
                                          have hcut82 := cut_mid (P := Try.prog) 22 5 .i64 .i64 Try.underlying22 hi082 1 hsz82 Ao81 t935.length co81 x16_3 (wrap64 (x16_3 + 4)) q082 ql82 q82 hroom82
                                          have hr82 := Kd.F_mid (lo := (x16_3 : Int).toNat) (hi := ((wrap64 (x16_3 + 4)) : Int).toNat) (c := co81) hC82 (by omega) (by omega) hroom82
                                          obtain ⟨A82, hA82⟩ : ∃ A1, A1 = (if co81 = (x16_3 : Int).toNat then Ao81 else (Ao81 : Option Addr).map (·.add ((x16_3 : Int).toNat * 1))) := ⟨_, rfl⟩
                                          obtain ⟨c82, hc82⟩ : ∃ c1, c1 = co81 - (x16_3 : Int).toNat := ⟨_, rfl⟩
                                          have hy82 : y950.length = ((wrap64 (x16_3 + 4)) : Int).toNat - (x16_3 : Int).toNat := (by rw [Ny950.out, List.length_drop, List.length_take] <;> omega)
                                          rw [show ((t935).take ((wrap64 (x16_3 + 4)) : Int).toNat).drop (x16_3 : Int).toNat = y950 from Ny950.out.symm] at hr82
                                          replace hr82 : Kd.F (Kd.int .u8) _ _ A82 y950.length y950 := (by rw [hA82]; exact hr82)
                                          rw [← hy82, ← hA82, ← hc82] at hcut82
                                          have HO954 := Aside0.mk (show Kd.V (Kd.int .u8) 5 _ w.heap.size _ (.slice A82 y950.length c82) y950 from Kd.V_mk (by rw [hy82, hc82]; exact Nat.sub_le_sub_right (Nat.le_trans (by omega) hroom82) _) hr82)
                                          have HC954 := Aside0.mk (show y950.length ≤ c82 from by rw [hy82, hc82]; exact Nat.sub_le_sub_right (Nat.le_trans (by omega) hroom82) _)
                                          clear hr82 hC82 hroom82 hi082 hsz82 hc82
                                          have KY82 := Aside0.mk hy82
                                          have KA82 := Aside0.mk hA82
                                          clear hy82 hA82
                                          replace q82 := eq_true q82
                                          go_wp2_with (first | ((with_reducible refine gate_callee (f := 67) rfl ?_); refine goesL_ (some 85) rfl rfl Try.func67 (by kernel_rfl) rfl #[.slice A82 y950.length c82] rfl (by (try simp only [List.map_toArray, List.map_cons, List.map_nil]); first | done | rfl | (simp only [List.length_drop, List.length_take]; rfl)) ?_; (with_reducible refine (spec_l2Low.calls k3 _ _ y950 t955 _ ?side1 ?side2 A65.out).mono ?_); (case side1 => repeat (first | exact (Kd.V_reads' HO954.out).2.2 | (with_reducible refine Kd.C_alloc ?_ _) | (with_reducible refine Kd.C_drewN ?_ _) | (with_reducible refine Kd.C_drew ?_))); (case side2 => exact (Kd.V_reads' HO954.out).2.1); rintro e w' ⟨rfl, ⟨nd, rfl⟩⟩; refine ⟨_, rfl, ?_⟩; obtain ⟨Ao83, co83, eo83⟩ := Kd.R_slice HO_7.out; subst eo83) | ((with_reducible refine gate_builtin (b := .append) (xs := #[.tmp 97, .tmp 99]) rfl ?_); (try (refine gate_guard (by rfl) ?_; dsimp only)); at_builtin; refine Kd.R_append (Kd.int .i64) (w0 := w) w.heap.size rfl (.tmp 97) (.tmp 99) 91 3 (.int .i64 0) 8 rfl Try.underlying91 info3 rfl (by decide) (by omega) (.slice Ao83 x7_3.length co83) x7_3 t955 [.int .i64 t955] (fun k_ => some k_ ≠ (v948 : Value).ownBlock) (fun _ => False) rfl rfl ?aP (fun _ hk => hk.elim) ?aF ?aO ?aB ?aS ?aL ?_; (case aP => exact rfl); (case aB => exact (by repeat (first | (with_reducible first | exact HB.out | apply below_alloc | apply pw_below_drewN | apply below_drew1 | refine below_set ?_ GE917.out | refine below_set ?_ GE918.out | refine below_set ?_ GE929.out) | exact HB.out))); (case aF => exact (fun k_ hk => Kd.fresh' (Kd.R_lt (by (with_reducible repeat (first | apply Kd.R_alloc | apply Kd.R_drewN | apply Kd.R_drew)); exact HO_8.out)) k_ hk)); (case aO => exact (by (with_reducible repeat (first | apply Kd.R_alloc | apply Kd.R_drewN | apply Kd.R_drew)); exact HO_7.out)); (case aS => exact (below_size (by repeat (first | (with_reducible first | exact HB.out | apply below_alloc | apply pw_below_drewN | apply below_drew1 | refine below_set ?_ GE917.out | refine below_set ?_ GE918.out | refine below_set ?_ GE929.out) | exact HB.out)))); (case aL => have := LMc80.out; omega); intro v966 w84 ho hb hg hat; rw [← Ny965.out] at ho; have n0_ := Aside0.mk (Kd.R_after (ok := (fun _ => True)) (by (with_reducible repeat (first | apply Kd.R_alloc | apply Kd.R_drewN | apply Kd.R_drew)); exact Kd.R_mono HO_8.out (fun _ hk => ⟨trivial, hk⟩)) hg hat); have n1_ := Aside0.mk (Kd.R_over' (by (with_reducible repeat (first | apply Kd.R_alloc | apply Kd.R_drewN | apply Kd.R_drew)); exact HO_10.out) (Kd.R_typed (by (with_reducible repeat (first | apply Kd.R_alloc | apply Kd.R_drewN | apply Kd.R_drew)); exact HO_7.out)) (by decide) hg); have n2_ := Aside0.mk (Kd.R_over' (by (with_reducible repeat (first | apply Kd.R_alloc | apply Kd.R_drewN | apply Kd.R_drew)); exact HO_14.out) (Kd.R_typed (by (with_reducible repeat (first | apply Kd.R_alloc | apply Kd.R_drewN | apply Kd.R_drew)); exact HO_7.out)) (by decide) hg); have n3_ := Aside0.mk (Kd.N_afterv (ok := (fun k_ => some k_ ≠ (v948 : Value).ownBlock ∧ some k_ ≠ (.slice (some ⟨go56, 0, none⟩) y946.length co56 : Value).ownBlock ∧ some k_ ≠ (.slice Ao81 t935.length co81 : Value).ownBlock ∧ k_ ≠ gb917 ∧ k_ ≠ gb918 ∧ k_ ≠ gb929)) (by (with_reducible repeat (first | apply Kd.N_alloc | apply Kd.N_drewN | apply Kd.N_drew)); exact Kd.N_mono HO_930000.out (fun _ hk => ⟨⟨hk.2.1, ⟨hk.2.2.1, ⟨hk.2.2.2.1, ⟨hk.2.2.2.2.1, ⟨hk.2.2.2.2.2.1, hk.2.2.2.2.2.2⟩⟩⟩⟩⟩, hk.1⟩)) hg hat); have n4_ := Aside0.mk (blk_grown (g := gb917) (o := .cells #[.slice A0_0 l0_0.length c0_0, .slice A0_1 l0_1.length c0_1] 44 (0, 0)) (by (with_reducible repeat (first | refine blk_drewN ?_ _ | refine blk_drew ?_ | refine blk_alloc ?_ _)); exact BK917.out) hg (Kd.R_ne HO_7.out BK917.out (by decide))); have n5_ := Aside0.mk (blk_grown (g := gb918) (o := .cells #[.int .i64 a1_0, .int .i64 a1_1, .int .i64 a1_2, .int .i64 a1_3] 81 (0, 0)) (by (with_reducible repeat (first | refine blk_drewN ?_ _ | refine blk_drew ?_ | refine blk_alloc ?_ _)); exact BK918.out) hg (Kd.R_ne HO_7.out BK918.out (by decide))); have n6_ := Aside0.mk (blk_grown (g := gb929) (o := .cells #[.slice Ao20 t926.length co20] 163 (0, 0)) (by (with_reducible repeat (first | refine blk_drewN ?_ _ | refine blk_drew ?_ | refine blk_alloc ?_ _)); exact BK929.out) hg (Kd.R_ne HO_7.out BK929.out (by decide))); have n7_ := Aside0.mk (Kd.V_afterv (ok := (fun k_ => some k_ ≠ (v948 : Value).ownBlock ∧ some k_ ≠ (.slice (some ⟨go56, 0, none⟩) y946.length co56 : Value).ownBlock ∧ some k_ ≠ (.slice Ao20 t926.length co20 : Value).ownBlock ∧ k_ ≠ gb917 ∧ k_ ≠ gb918 ∧ k_ ≠ gb929)) (by (with_reducible repeat (first | apply Kd.V_alloc | apply Kd.V_drewN | apply Kd.V_drew)); exact Kd.V_mono HO954.out (fun _ hk => ⟨⟨hk.1.1.1.1.1.2, ⟨hk.1.1.1.1.2, ⟨hk.1.1.1.2, ⟨hk.1.1.2, ⟨hk.1.2, hk.2⟩⟩⟩⟩⟩, hk.1.1.1.1.1.1.2⟩)) hg hat); have n8_ := Aside0.mk (hb); have n9_ := Aside0.mk (ho); clear HO_8; clear HO_10; clear HO_14; clear HO_930000; clear BK917; clear BK918; clear BK929; clear HO954; clear HB; clear HO_7; have HO_8 := n0_; have HO_10 := n1_; have HO_14 := n2_; have HO_930000 := n3_; have BK917 := n4_; have BK918 := n5_; have BK929 := n6_; have HO954 := n7_; have HB := n8_; have HO967 := n9_; clear n0_ n1_ n2_ n3_ n4_ n5_ n6_ n7_ n8_ n9_; clear ho hb hg hat))
                                          (try simp only [← hl10_3])
                                          go_roundg k3
                                          case measure => have := HK1.out; have := HJ31.out; have := HK3.out; omega
                                          case rel => exact ⟨(y965), (t955), (wrap64 (x16_3 + 4)), (by first | rfl | (simp; done) | (simp [*]; done)), (by first | rfl | (simp; done) | (simp [*]; done)), H', ⟨by have := HK1.out; have := HJ31.out; have := HK3.out; omega⟩, ⟨by (try simp only [hl10_3]); (with_reducible repeat (first | apply Kd.R_alloc | apply Kd.R_drewN | apply Kd.R_drew)); exact HO967.out⟩, ⟨by (try simp only [hl10_3]); (with_reducible repeat (first | apply Kd.R_alloc | apply Kd.R_drewN | apply Kd.R_drew)); exact Kd.R_mono HO_8.out (fun _ hk => hk.2)⟩, ⟨by (try simp only [hl10_3]); (with_reducible repeat (first | apply Kd.R_alloc | apply Kd.R_drewN | apply Kd.R_drew)); exact HO_10.out⟩, ⟨by (try simp only [hl10_3]); (with_reducible repeat (first | apply Kd.R_alloc | apply Kd.R_drewN | apply Kd.R_drew)); exact HO_14.out⟩, ⟨by (try simp only [hl10_3]); (with_reducible repeat (first | apply Kd.N_alloc | apply Kd.N_drewN | apply Kd.N_drew)); exact Kd.N_mono HO_930000.out (fun _ hk => ⟨hk.2, ⟨hk.1.1, ⟨hk.1.2.1, ⟨hk.1.2.2.1, ⟨hk.1.2.2.2.1, ⟨hk.1.2.2.2.2.1, hk.1.2.2.2.2.2⟩⟩⟩⟩⟩⟩)⟩, ⟨by (try simp only [hl10_3]); (with_reducible repeat (first | refine blk_drewN ?_ _ | refine blk_drew ?_ | refine blk_alloc ?_ _)); exact BK917.out⟩, ⟨by (try simp only [hl10_3]); (with_reducible repeat (first | refine blk_drewN ?_ _ | refine blk_drew ?_ | refine blk_alloc ?_ _)); exact BK918.out⟩, ⟨by (try simp only [hl10_3]); (with_reducible repeat (first | refine blk_drewN ?_ _ | refine blk_drew ?_ | refine blk_alloc ?_ _)); exact BK929.out⟩, ⟨by repeat (first | (with_reducible first | exact HB.out | apply below_alloc | apply pw_below_drewN | apply below_drew1 | refine below_set ?_ GE917.out | refine below_set ?_ GE918.out | refine below_set ?_ GE929.out) | exact HB.out)⟩⟩
                                        · rw [if_neg c80] at H
                                          exact absurd H (by simp)
                                    · rw [if_neg c64] at H
                                      exact absurd H (by simp)
                                  · rw [if_neg c63] at H
                                    exact absurd H (by simp)
                                · rw [if_neg c62] at H
                                  exact absurd H (by simp)
                              · rw [if_neg c61] at H
                                have c61b0 : decide (x16_3 < (t935.length : Int)) = false := decide_eq_false c61
                                clear c61
                                by_cases c85 : 4 ≤ (t935.length : Int)
                                · rw [if_pos c85] at H
                                  have c85b0 := eq_true c85
                                  have c85b1 : decide (4 ≤ (t935.length : Int)) = true := decide_eq_true c85
                                  clear c85
                                  obtain ⟨y968, hy968⟩ : ∃ y_ : List Int, y_ = (t935.take 4) := ⟨_, rfl⟩
                                  replace H : ((spec_l2Low.f k3 y968).bind fun t973 => (spec_FreeList.l0 k3 x7_3 y947 y946 x11_3 t973 t926)) = some (r1, r2, r3) := by first | (rw [hy968]; with_reducible exact H) | (have H2_ := (Option.bind_some _ _).symm.trans H; rw [hy968]; with_reducible exact H2_) | (have H2_ := (Option.bind_some _ _).symm.trans H; with_reducible exact H2_) | with_reducible exact H | (rw [hy968]; exact H) | exact H
                                  have Ny968 := Aside0.mk hy968
                                  clear hy968
                                  replace H := Option.bind_eq_some_iff.mp H
                                  obtain ⟨t973, A860, H⟩ := H
                                  replace H : (spec_FreeList.l0 k3 x7_3 y947 y946 x11_3 t973 t926) = some (r1, r2, r3) := H
                                  have A86 := Aside0.mk A860
                                  clear A860
                                  have H' := Aside0.mk H
                                  clear H
                                  obtain ⟨Ao87, co87, eo87⟩ := Kd.R_slice HO_14.out
                                  subst eo87
                                  have q88 : (4 : Int) ≤ ((t935.length : Int) : Int) := of_decide_eq_true (by first | (with_reducible assumption) | assumption)
                                  obtain ⟨i088, hi088, _, hsz88, _⟩ := info_parts info5
                                  have hroom88 : t935.length ≤ co87 := (Kd.R_reads' HO_14.out).2.1
                                  have hC88 : Kd.F (Kd.int .u8) _ _ Ao87 t935.length t935 := (Kd.V_at (base := w.heap.size) (Kd.R_V (Kd.R_types (Kd.R_types (Kd.R_types (Kd.R_apart' (Kd.R_apart' (Kd.R_apart' (Kd.R_apart' (HO_14.out) (Kd.R_typed HO_7.out) (by decide)) (Kd.R_typed HO_8.out) (by decide)) (Kd.R_typed HO_10.out) (by decide)) (Kd.N_typed HO_930000.out) (by decide)) BK917.out (by decide)) BK918.out (by decide)) BK929.out (by decide)))).2.2
                                  have hcut88 := cut_to (P := Try.prog) 22 5 .i64 Try.underlying22 hi088 Ao87 t935.length co87 4 (by omega) q88 hroom88
                                  have hr88 := Kd.F_take (m := 4) hC88 (by omega)
                                  have hy88 : y968.length = (4 : Int).toNat := (by rw [Ny968.out, List.length_take]; omega)
                                  rw [← Ny968.out] at hr88
                                  rw [← hy88] at hcut88
                                  have HO972 := Aside0.mk (show Kd.V (Kd.int .u8) 5 _ w.heap.size _ (.slice Ao87 y968.length co87) y968 from Kd.V_mk (by omega) hr88)
                                  have HC972 := Aside0.mk (show y968.length ≤ co87 from by omega)
                                  clear hr88 hC88 hroom88 hi088 hsz88
                                  have KY88 := Aside0.mk hy88
                                  clear hy88
                                  replace q88 := eq_true q88
                                  go_wp2_with (first | ((with_reducible refine gate_callee (f := 67) rfl ?_); refine goesL_ (some 103) rfl rfl Try.func67 (by kernel_rfl) rfl #[.slice Ao87 y968.length co87] rfl (by (try simp only [List.map_toArray, List.map_cons, List.map_nil]); first | done | rfl | (simp only [List.length_drop, List.length_take]; rfl)) ?_; (with_reducible refine (spec_l2Low.calls k3 _ _ y968 t973 _ ?side1 ?side2 A86.out).mono ?_); (case side1 => repeat (first | exact (Kd.V_reads' HO972.out).2.2 | (with_reducible refine Kd.C_alloc ?_ _) | (with_reducible refine Kd.C_drewN ?_ _) | (with_reducible refine Kd.C_drew ?_))); (case side2 => exact (Kd.V_reads' HO972.out).2.1); rintro e w' ⟨rfl, ⟨nd, rfl⟩⟩; refine ⟨_, rfl, ?_⟩))
                                  (try simp only [← hl10_3])
                                  go_roundg k3
                                  case measure => have := HK1.out; have := HJ31.out; have := HK3.out; omega
                                  case rel => exact ⟨(x7_3), (y947), (y946), (x11_3), (t973), (by first | rfl | (simp; done) | (simp [*]; done)), (by first | rfl | (simp; done) | (simp [*]; done)), H', ⟨by have := HK1.out; have := HJ31.out; have := HK3.out; omega⟩, ⟨by (try simp only [hl10_3]); (with_reducible repeat (first | apply Kd.R_alloc | apply Kd.R_drewN | apply Kd.R_drew)); exact HO_7.out⟩, ⟨by (try simp only [hl10_3]); (with_reducible repeat (first | apply Kd.R_alloc | apply Kd.R_drewN | apply Kd.R_drew)); exact HO_8.out⟩, ⟨by (try simp only [hl10_3]); (with_reducible repeat (first | apply Kd.R_alloc | apply Kd.R_drewN | apply Kd.R_drew)); exact HO_10.out⟩, ⟨by (try simp only [hl10_3]); (with_reducible repeat (first | apply Kd.N_alloc | apply Kd.N_drewN | apply Kd.N_drew)); exact Kd.N_mono HO_930000.out (fun _ hk => ⟨hk.1, ⟨hk.2.1, ⟨hk.2.2.1, ⟨hk.2.2.2.2.1, ⟨hk.2.2.2.2.2.1, hk.2.2.2.2.2.2⟩⟩⟩⟩⟩)⟩, ⟨by (try simp only [hl10_3]); (with_reducible repeat (first | refine blk_drewN ?_ _ | refine blk_drew ?_ | refine blk_alloc ?_ _)); exact BK917.out⟩, ⟨by (try simp only [hl10_3]); (with_reducible repeat (first | refine blk_drewN ?_ _ | refine blk_drew ?_ | refine blk_alloc ?_ _)); exact BK918.out⟩, ⟨by (try simp only [hl10_3]); (with_reducible repeat (first | refine blk_drewN ?_ _ | refine blk_drew ?_ | refine blk_alloc ?_ _)); exact BK929.out⟩, ⟨by repeat (first | (with_reducible first | exact HB.out | apply below_alloc | apply pw_below_drewN | apply below_drew1 | refine below_set ?_ GE917.out | refine below_set ?_ GE918.out | refine below_set ?_ GE929.out) | exact HB.out)⟩⟩
                                · rw [if_neg c85] at H
                                  exact absurd H (by simp)
                        · rw [if_neg c57] at H
                          exact absurd H (by simp)
                      · rw [if_neg c55] at H
                        exact absurd H (by simp)
                    · rw [if_neg c54] at H
                      exact absurd H (by simp)
      · rw [if_neg c8] at H
        exact absurd H (by simp)
    · rw [if_neg c7] at H
      exact absurd H (by simp)
  · replace c4 := Bool.eq_false_iff.mpr c4
    subst c4
    have H1 : (some (y919, y922, false)) = some (r1, r2, r3) := by rw [if_neg (show ¬ (false = true) by decide)] at H; exact H
    clear H
    have H := H1
    clear H1
    simp only [Option.some.injEq, Prod.mk.injEq] at H
    obtain ⟨rfl, rfl, rfl⟩ := H
    go_enter Try.func61, Try.ntmps61
    go_wp2_with (first | ((with_reducible refine gate_dst (N := 2) rfl ?_); (try (refine gate_guard (by rfl) ?_; dsimp only)); refine box_event ?hg (N := 2) ?hd (cs := #[.slice A0_0 l0_0.length c0_0, .slice A0_1 l0_1.length c0_1]) (t := 44) ?hr ?_; (case hd => rfl); (case hg => rfl); (case hr => first | (go_simp; done) | (go_simp; rfl)); intro gb917 hg w89 hbox hb; have n0_ := Aside0.mk (below_step (by repeat (first | (with_reducible first | exact HB.out | apply below_alloc | apply pw_below_drewN | apply below_drew1) | exact HB.out)) hb); have n1_ := Aside0.mk (hbox); have n2_ := Aside0.mk ((by rw [hg]; exact (below_size (by repeat (first | (with_reducible first | exact HB.out | apply below_alloc | apply pw_below_drewN | apply below_drew1) | exact HB.out))) : w.heap.size ≤ gb917)); have n3_ := Aside0.mk ((by rw [hg]; exact (below_size (by repeat (first | (with_reducible first | exact HB.out | apply below_alloc | apply pw_below_drewN | apply below_drew1) | exact HB.out))) : w.heap.size ≤ gb917)); clear HB; have HB := n0_; have BK917 := n1_; have GW917 := n2_; have GE917 := n3_; clear n0_ n1_ n2_ n3_; clear hb hbox hg) | ((with_reducible refine gate_dst (N := 3) rfl ?_); (try (refine gate_guard (by rfl) ?_; dsimp only)); refine box_event ?hg (N := 3) ?hd (cs := #[.int .i64 a1_0, .int .i64 a1_1, .int .i64 a1_2, .int .i64 a1_3]) (t := 81) ?hr ?_; (case hd => rfl); (case hg => rfl); (case hr => first | (go_simp; done) | (go_simp; rfl)); intro gb918 hg w90 hbox hb; have n0_ := Aside0.mk (blk_below (g := gb917) (o := .cells #[.slice A0_0 l0_0.length c0_0, .slice A0_1 l0_1.length c0_1] 44 (0, 0)) (by (with_reducible repeat (first | refine blk_drewN ?_ _ | refine blk_drew ?_ | refine blk_alloc ?_ _)); exact BK917.out) hb); have n1_ := Aside0.mk (below_step (by repeat (first | (with_reducible first | exact HB.out | apply below_alloc | apply pw_below_drewN | apply below_drew1 | refine below_set ?_ GE917.out) | exact HB.out)) hb); have n2_ := Aside0.mk (hbox); have n3_ := Aside0.mk ((by rw [hg]; exact (below_size (by repeat (first | (with_reducible first | exact HB.out | apply below_alloc | apply pw_below_drewN | apply below_drew1 | refine below_set ?_ GE917.out) | exact HB.out))) : w.heap.size ≤ gb918)); have n4_ := Aside0.mk ((by rw [hg]; exact (below_size (by repeat (first | (with_reducible first | exact HB.out | apply below_alloc | apply pw_below_drewN | apply below_drew1 | refine below_set ?_ GE917.out) | exact HB.out))) : w.heap.size ≤ gb918)); have n5_ := Aside0.mk ((by rw [hg]; exact Nat.ne_of_lt (blk_lt (g := gb917) (o := .cells #[.slice A0_0 l0_0.length c0_0, .slice A0_1 l0_1.length c0_1] 44 (0, 0)) (by (with_reducible repeat (first | refine blk_drewN ?_ _ | refine blk_drew ?_ | refine blk_alloc ?_ _)); exact BK917.out)) : gb917 ≠ gb918)); have n6_ := Aside0.mk ((by rw [hg]; exact Nat.ne_of_gt (blk_lt (g := gb917) (o := .cells #[.slice A0_0 l0_0.length c0_0, .slice A0_1 l0_1.length c0_1] 44 (0, 0)) (by (with_reducible repeat (first | refine blk_drewN ?_ _ | refine blk_drew ?_ | refine blk_alloc ?_ _)); exact BK917.out)) : gb918 ≠ gb917)); clear BK917; clear HB; have BK917 := n0_; have HB := n1_; have BK918 := n2_; have GW918 := n3_; have GE918 := n4_; have NB917_918 := n5_; have NB918_917 := n6_; clear n0_ n1_ n2_ n3_ n4_ n5_ n6_; clear hb hbox hg) | ((with_reducible refine gate_dst (N := 18) rfl ?_); (try (refine gate_guard (by rfl) ?_; dsimp only)); refine Kd.R_lit (Kd.int .i64) _ 3 ?hg (N := 18) ?hd (xs := ([] : List Int)) (inner := []) (ok := fun _ => True) (okp := fun _ => True) ?hr ?hp (fun _ hk => hk) trivial (Below.refl _ _) (Nat.le_refl _) (by simp) ?_; (case hd => rfl); (case hg => rfl); (case hr => first | (go_simp; done) | (go_simp; rfl)); (case hp => exact (Reps.none _ _)); intro v920 w91 ho92 hb hg_ hnew_; clear hg_ hnew_; (first | rw [← Ny919.out] at ho92 | (simp only [Int.reduceToNat] at ho92; rw [← Ny919.out] at ho92)); have n0_ := Aside0.mk (Kd.R_lower ho92 (below_size (by repeat (first | (with_reducible first | exact HB.out | apply below_alloc | apply pw_below_drewN | apply below_drew1 | refine below_set ?_ GE917.out | refine below_set ?_ GE918.out) | exact HB.out)))); have n1_ := Aside0.mk (blk_below (g := gb917) (o := .cells #[.slice A0_0 l0_0.length c0_0, .slice A0_1 l0_1.length c0_1] 44 (0, 0)) (by (with_reducible repeat (first | refine blk_drewN ?_ _ | refine blk_drew ?_ | refine blk_alloc ?_ _)); exact BK917.out) hb); have n2_ := Aside0.mk (blk_below (g := gb918) (o := .cells #[.int .i64 a1_0, .int .i64 a1_1, .int .i64 a1_2, .int .i64 a1_3] 81 (0, 0)) (by (with_reducible repeat (first | refine blk_drewN ?_ _ | refine blk_drew ?_ | refine blk_alloc ?_ _)); exact BK918.out) hb); have n3_ := Aside0.mk (below_step (by repeat (first | (with_reducible first | exact HB.out | apply below_alloc | apply pw_below_drewN | apply below_drew1 | refine below_set ?_ GE917.out | refine below_set ?_ GE918.out) | exact HB.out)) hb); clear BK917; clear BK918; clear HB; have HO921 := n0_; have BK917 := n1_; have BK918 := n2_; have HB := n3_; clear n0_ n1_ n2_ n3_; clear hb ho92) | ((with_reducible refine gate_dst (N := 19) rfl ?_); (try (refine gate_guard (by rfl) ?_; dsimp only)); refine Kd.R_lit (Kd.int .i64) _ 3 ?hg (N := 19) ?hd (xs := ([] : List Int)) (inner := []) (ok := fun _ => True) (okp := fun _ => True) ?hr ?hp (fun _ hk => hk) trivial (Below.refl _ _) (Nat.le_refl _) (by simp) ?_; (case hd => rfl); (case hg => rfl); (case hr => first | (go_simp; done) | (go_simp; rfl)); (case hp => exact (Reps.none _ _)); intro v923 w93 ho94 hb hg_ hnew_; clear hg_ hnew_; (first | rw [← Ny922.out] at ho94 | (simp only [Int.reduceToNat] at ho94; rw [← Ny922.out] at ho94)); have n0_ := Aside0.mk (Kd.R_elder' (by (with_reducible repeat (first | apply Kd.R_alloc | apply Kd.R_drewN | apply Kd.R_drew)); exact HO921.out) (Kd.R_base ho94) hb); have n1_ := Aside0.mk (Kd.R_lower (Kd.R_new' ho94 (Kd.R_lt (by (with_reducible repeat (first | apply Kd.R_alloc | apply Kd.R_drewN | apply Kd.R_drew)); exact HO921.out))) (below_size (by repeat (first | (with_reducible first | exact HB.out | apply below_alloc | apply pw_below_drewN | apply below_drew1 | refine below_set ?_ GE917.out | refine below_set ?_ GE918.out) | exact HB.out)))); have n2_ := Aside0.mk (blk_below (g := gb917) (o := .cells #[.slice A0_0 l0_0.length c0_0, .slice A0_1 l0_1.length c0_1] 44 (0, 0)) (by (with_reducible repeat (first | refine blk_drewN ?_ _ | refine blk_drew ?_ | refine blk_alloc ?_ _)); exact BK917.out) hb); have n3_ := Aside0.mk (blk_below (g := gb918) (o := .cells #[.int .i64 a1_0, .int .i64 a1_1, .int .i64 a1_2, .int .i64 a1_3] 81 (0, 0)) (by (with_reducible repeat (first | refine blk_drewN ?_ _ | refine blk_drew ?_ | refine blk_alloc ?_ _)); exact BK918.out) hb); have n4_ := Aside0.mk (below_step (by repeat (first | (with_reducible first | exact HB.out | apply below_alloc | apply pw_below_drewN | apply below_drew1 | refine below_set ?_ GE917.out | refine below_set ?_ GE918.out) | exact HB.out)) hb); clear HO921; clear BK917; clear BK918; clear HB; have HO921 := n0_; have HO924 := n1_; have BK917 := n2_; have BK918 := n3_; have HB := n4_; clear n0_ n1_ n2_ n3_ n4_; clear hb ho94; have hnb95 := NB917_918.out; have hnc95 := NB918_917.out; have hcz96_0 : w93.cell? ⟨gb917, 0, none⟩ = some (.slice A0_0 l0_0.length c0_0) := (blk_cell BK917.out 0).trans rfl; have hcz96_1 : w93.cell? ⟨gb917, 1, none⟩ = some (.slice A0_1 l0_1.length c0_1) := (blk_cell BK917.out 1).trans rfl; have hfz96_0 := blk_frozen BK917.out 0; have hfz96_1 := blk_frozen BK917.out 1) | ((with_reducible refine gate_callee (f := 83) rfl ?_); refine goesL_ (some 21) rfl rfl Try.func83 (by kernel_rfl) rfl #[.agg #[.slice A0_0 l0_0.length c0_0, .slice A0_1 l0_1.length c0_1]] rfl (by (try simp only [List.map_toArray, List.map_cons, List.map_nil]); first | done | rfl | (simp only [List.length_drop, List.length_take]; rfl)) ?_; (with_reducible refine (spec_DiskOk.calls k _ _ l0_0 _ _ l0_1 false _ ?side1 ?side2 ?side3 ?side4 A3.out).mono ?_); (case side1 => repeat (first | exact (Kd.C_below HR0_0.out HB.out) | (with_reducible refine Kd.C_alloc ?_ _) | (with_reducible refine Kd.C_drewN ?_ _) | (with_reducible refine Kd.C_drew ?_))); (case side2 => exact HC0_0.out); (case side3 => repeat (first | exact (Kd.C_below HR0_1.out HB.out) | (with_reducible refine Kd.C_alloc ?_ _) | (with_reducible refine Kd.C_drewN ?_ _) | (with_reducible refine Kd.C_drew ?_))); (case side4 => exact HC0_1.out); rintro e w97 ⟨rfl, hb⟩; refine ⟨_, rfl, ?_⟩; have n0_ := Aside0.mk (Kd.R_below (by (with_reducible repeat (first | apply Kd.R_alloc | apply Kd.R_drewN | apply Kd.R_drew)); exact HO921.out) hb); have n1_ := Aside0.mk (Kd.R_below (by (with_reducible repeat (first | apply Kd.R_alloc | apply Kd.R_drewN | apply Kd.R_drew)); exact HO924.out) hb); have n2_ := Aside0.mk (blk_below (g := gb917) (o := .cells #[.slice A0_0 l0_0.length c0_0, .slice A0_1 l0_1.length c0_1] 44 (0, 0)) (by (with_reducible repeat (first | refine blk_drewN ?_ _ | refine blk_drew ?_ | refine blk_alloc ?_ _)); exact BK917.out) hb); have n3_ := Aside0.mk (blk_below (g := gb918) (o := .cells #[.int .i64 a1_0, .int .i64 a1_1, .int .i64 a1_2, .int .i64 a1_3] 81 (0, 0)) (by (with_reducible repeat (first | refine blk_drewN ?_ _ | refine blk_drew ?_ | refine blk_alloc ?_ _)); exact BK918.out) hb); have n4_ := Aside0.mk (below_step (by repeat (first | (with_reducible first | exact HB.out | apply below_alloc | apply pw_below_drewN | apply below_drew1 | refine below_set ?_ GE917.out | refine below_set ?_ GE918.out) | exact HB.out)) hb); clear HO921; clear HO924; clear BK917; clear BK918; clear HB; have HO921 := n0_; have HO924 := n1_; have BK917 := n2_; have BK918 := n3_; have HB := n4_; clear n0_ n1_ n2_ n3_ n4_; (try clear hb); (try clear hb2); (try clear hk); (try clear hi)))
    go_ret3
    exact ⟨_, _, by first | rfl | (simp [errW_none, errW_some] <;> rfl) | (simp [*, errW_none, errW_some] <;> rfl), by (with_reducible repeat (first | apply Kd.R_alloc | apply Kd.R_drewN | apply Kd.R_drew)); exact Kd.R_mono HO921.out (fun _ hk => hk.2), by (with_reducible repeat (first | apply Kd.R_alloc | apply Kd.R_drewN | apply Kd.R_drew)); exact Kd.R_mono HO924.out (fun _ hk => hk.2), by repeat (first | (with_reducible first | exact HB.out | apply below_alloc | apply pw_below_drewN | apply below_drew1 | refine below_set ?_ GE917.out | refine below_set ?_ GE918.out) | exact HB.out)⟩

end Go.Proofs.Ytlopmffdebhpfaa.G

/-! ## G62 -/
namespace Go.Proofs.Ytlopmffdebhpfaa.G
open Go.RowKit Go.Proofs.YtlopmffdebhpfaaW.PrintWords Go.Proofs.YtlopmffdebhpfaaW.PrintLast Go.Proofs.YtlopmffdebhpfaaW.PrintMore
attribute [local go_sem] max2_int min2_int max_two min_two max_three min_three max_four min_four
set_option linter.unusedVariables false
set_option linter.unusedSimpArgs false

/-! ### laws_toSuper: function 62 -/
def laws_toSuper.f (a0_0 : Int) (a0_1 : Int) (a0_2 : Int) (a0_3 : Int) : Option (Int × Int × Int × Int) := some (a0_0, a0_1, a0_2, a0_3)
set_option maxHeartbeats 8000000 in
set_option maxRecDepth 100000 in
theorem laws_toSuper.calls (a0_0 : Int) (a0_1 : Int) (a0_2 : Int) (a0_3 : Int) (r1 : Int) (r2 : Int) (r3 : Int) (r4 : Int) (w : World) (h : laws_toSuper.f a0_0 a0_1 a0_2 a0_3 = some (r1, r2, r3, r4)) :
    Calls Try.prog 62 #[.agg #[.int .i64 a0_0, .int .i64 a0_1, .int .i64 a0_2, .int .i64 a0_3]] w fun e w' => e = .returned (.agg #[.int .i64 r1, .int .i64 r2, .int .i64 r3, .int .i64 r4]) ∧ Below w.heap.size w w' := by
  have hu90 := Try.underlying90
  have hu81 := Try.underlying81
  have HB := Aside0.mk (Below.refl w.heap.size w)
  have H : (some (a0_0, a0_1, a0_2, a0_3)) = some (r1, r2, r3, r4) := h
  clear h
  simp only [Option.some.injEq, Prod.mk.injEq] at H
  obtain ⟨rfl, rfl, rfl, rfl⟩ := H
  go_enter Try.func62, Try.ntmps62
  go_wp2_with (first | ((with_reducible refine gate_dst (N := 1) rfl ?_); refine box_event ?hg (N := 1) ?hd (cs := #[.int .i64 a0_0, .int .i64 a0_1, .int .i64 a0_2, .int .i64 a0_3]) (t := 90) ?hr ?_; (case hd => rfl); (case hg => rfl); (case hr => first | (go_simp; done) | (go_simp; rfl)); intro gb974 hg w2 hbox hb; have n0_ := Aside0.mk (below_step (by repeat (first | (with_reducible first | exact HB.out | apply below_alloc | apply pw_below_drewN | apply below_drew1) | exact HB.out)) hb); have n1_ := Aside0.mk (hbox); have n2_ := Aside0.mk ((by rw [hg]; exact (below_size (by repeat (first | (with_reducible first | exact HB.out | apply below_alloc | apply pw_below_drewN | apply below_drew1) | exact HB.out))) : w.heap.size ≤ gb974)); have n3_ := Aside0.mk ((by rw [hg]; exact (below_size (by repeat (first | (with_reducible first | exact HB.out | apply below_alloc | apply pw_below_drewN | apply below_drew1) | exact HB.out))) : w.heap.size ≤ gb974)); clear HB; have HB := n0_; have BK974 := n1_; have GW974 := n2_; have GE974 := n3_; clear n0_ n1_ n2_ n3_; clear hb hbox hg) | ((with_reducible refine gate_dst (N := 2) rfl ?_); refine box_event ?hg (N := 2) ?hd (cs := #[.int .i64 0, .int .i64 0, .int .i64 0, .int .i64 0]) (t := 81) ?hr ?_; (case hd => rfl); (case hg => rfl); (case hr => first | (go_simp; done) | (go_simp; rfl)); intro gb975 hg w3 hbox hb; have n0_ := Aside0.mk (blk_below (g := gb974) (o := .cells #[.int .i64 a0_0, .int .i64 a0_1, .int .i64 a0_2, .int .i64 a0_3] 90 (0, 0)) (by (with_reducible repeat (first | refine blk_drewN ?_ _ | refine blk_drew ?_ | refine blk_alloc ?_ _)); exact BK974.out) hb); have n1_ := Aside0.mk (below_step (by repeat (first | (with_reducible first | exact HB.out | apply below_alloc | apply pw_below_drewN | apply below_drew1 | refine below_set ?_ GE974.out) | exact HB.out)) hb); have n2_ := Aside0.mk (hbox); have n3_ := Aside0.mk ((by rw [hg]; exact (below_size (by repeat (first | (with_reducible first | exact HB.out | apply below_alloc | apply pw_below_drewN | apply below_drew1 | refine below_set ?_ GE974.out) | exact HB.out))) : w.heap.size ≤ gb975)); have n4_ := Aside0.mk ((by rw [hg]; exact (below_size (by repeat (first | (with_reducible first | exact HB.out | apply below_alloc | apply pw_below_drewN | apply below_drew1 | refine below_set ?_ GE974.out) | exact HB.out))) : w.heap.size ≤ gb975)); have n5_ := Aside0.mk ((by rw [hg]; exact Nat.ne_of_lt (blk_lt (g := gb974) (o := .cells #[.int .i64 a0_0, .int .i64 a0_1, .int .i64 a0_2, .int .i64 a0_3] 90 (0, 0)) (by (with_reducible repeat (first | refine blk_drewN ?_ _ | refine blk_drew ?_ | refine blk_alloc ?_ _)); exact BK974.out)) : gb974 ≠ gb975)); have n6_ := Aside0.mk ((by rw [hg]; exact Nat.ne_of_gt (blk_lt (g := gb974) (o := .cells #[.int .i64 a0_0, .int .i64 a0_1, .int .i64 a0_2, .int .i64 a0_3] 90 (0, 0)) (by (with_reducible repeat (first | refine blk_drewN ?_ _ | refine blk_drew ?_ | refine blk_alloc ?_ _)); exact BK974.out)) : gb975 ≠ gb974)); clear BK974; clear HB; have BK974 := n0_; have HB := n1_; have BK975 := n2_; have GW975 := n3_; have GE975 := n4_; have NB974_975 := n5_; have NB975_974 := n6_; clear n0_ n1_ n2_ n3_ n4_ n5_ n6_; clear hb hbox hg) | ((with_reducible refine gate_dst (N := 3) rfl ?_); refine box_event ?hg (N := 3) ?hd (cs := #[.int .i64 0, .int .i64 0, .int .i64 0, .int .i64 0]) (t := 81) ?hr ?_; (case hd => rfl); (case hg => rfl); (case hr => first | (go_simp; done) | (go_simp; rfl)); intro gb976 hg w4 hbox hb; have n0_ := Aside0.mk (blk_below (g := gb974) (o := .cells #[.int .i64 a0_0, .int .i64 a0_1, .int .i64 a0_2, .int .i64 a0_3] 90 (0, 0)) (by (with_reducible repeat (first | refine blk_drewN ?_ _ | refine blk_drew ?_ | refine blk_alloc ?_ _)); exact BK974.out) hb); have n1_ := Aside0.mk (blk_below (g := gb975) (o := .cells #[.int .i64 0, .int .i64 0, .int .i64 0, .int .i64 0] 81 (0, 0)) (by (with_reducible repeat (first | refine blk_drewN ?_ _ | refine blk_drew ?_ | refine blk_alloc ?_ _)); exact BK975.out) hb); have n2_ := Aside0.mk (below_step (by repeat (first | (with_reducible first | exact HB.out | apply below_alloc | apply pw_below_drewN | apply below_drew1 | refine below_set ?_ GE974.out | refine below_set ?_ GE975.out) | exact HB.out)) hb); have n3_ := Aside0.mk (hbox); have n4_ := Aside0.mk ((by rw [hg]; exact (below_size (by repeat (first | (with_reducible first | exact HB.out | apply below_alloc | apply pw_below_drewN | apply below_drew1 | refine below_set ?_ GE974.out | refine below_set ?_ GE975.out) | exact HB.out))) : w.heap.size ≤ gb976)); have n5_ := Aside0.mk ((by rw [hg]; exact (below_size (by repeat (first | (with_reducible first | exact HB.out | apply below_alloc | apply pw_below_drewN | apply below_drew1 | refine below_set ?_ GE974.out | refine below_set ?_ GE975.out) | exact HB.out))) : w.heap.size ≤ gb976)); have n6_ := Aside0.mk ((by rw [hg]; exact Nat.ne_of_lt (blk_lt (g := gb974) (o := .cells #[.int .i64 a0_0, .int .i64 a0_1, .int .i64 a0_2, .int .i64 a0_3] 90 (0, 0)) (by (with_reducible repeat (first | refine blk_drewN ?_ _ | refine blk_drew ?_ | refine blk_alloc ?_ _)); exact BK974.out)) : gb974 ≠ gb976)); have n7_ := Aside0.mk ((by rw [hg]; exact Nat.ne_of_gt (blk_lt (g := gb974) (o := .cells #[.int .i64 a0_0, .int .i64 a0_1, .int .i64 a0_2, .int .i64 a0_3] 90 (0, 0)) (by (with_reducible repeat (first | refine blk_drewN ?_ _ | refine blk_drew ?_ | refine blk_alloc ?_ _)); exact BK974.out)) : gb976 ≠ gb974)); have n8_ := Aside0.mk ((by rw [hg]; exact Nat.ne_of_lt (blk_lt (g := gb975) (o := .cells #[.int .i64 0, .int .i64 0, .int .i64 0, .int .i64 0] 81 (0, 0)) (by (with_reducible repeat (first | refine blk_drewN ?_ _ | refine blk_drew ?_ | refine blk_alloc ?_ _)); exact BK975.out)) : gb975 ≠ gb976)); have n9_ := Aside0.mk ((by rw [hg]; exact Nat.ne_of_gt (blk_lt (g := gb975) (o := .cells #[.int .i64 0, .int .i64 0, .int .i64 0, .int .i64 0] 81 (0, 0)) (by (with_reducible repeat (first | refine blk_drewN ?_ _ | refine blk_drew ?_ | refine blk_alloc ?_ _)); exact BK975.out)) : gb976 ≠ gb975)); clear BK974; clear BK975; clear HB; have BK974 := n0_; have BK975 := n1_; have HB := n2_; have BK976 := n3_; have GW976 := n4_; have GE976 := n5_; have NB974_976 := n6_; have NB976_974 := n7_; have NB975_976 := n8_; have NB976_975 := n9_; clear n0_ n1_ n2_ n3_ n4_ n5_ n6_ n7_ n8_ n9_; clear hb hbox hg; have hnb5 := NB974_975.out; have hnc5 := NB975_974.out; have hnb6 := NB974_976.out; have hnc6 := NB976_974.out; have hcz7_0 : w4.cell? ⟨gb974, 0, none⟩ = some (.int .i64 a0_0) := (blk_cell BK974.out 0).trans rfl; have hcz7_1 : w4.cell? ⟨gb974, 1, none⟩ = some (.int .i64 a0_1) := (blk_cell BK974.out 1).trans rfl; have hcz7_2 : w4.cell? ⟨gb974, 2, none⟩ = some (.int .i64 a0_2) := (blk_cell BK974.out 2).trans rfl; have hcz7_3 : w4.cell? ⟨gb974, 3, none⟩ = some (.int .i64 a0_3) := (blk_cell BK974.out 3).trans rfl; have hfz7_0 := blk_frozen BK974.out 0; have hfz7_1 := blk_frozen BK974.out 1; have hfz7_2 := blk_frozen BK974.out 2; have hfz7_3 := blk_frozen BK974.out 3; have hnb8 := NB976_975.out; have hnc8 := NB975_976.out; have hcz9_0 : w4.cell? ⟨gb976, 0, none⟩ = some (.int .i64 0) := (blk_cell BK976.out 0).trans rfl; have hcz9_1 : w4.cell? ⟨gb976, 1, none⟩ = some (.int .i64 0) := (blk_cell BK976.out 1).trans rfl; have hcz9_2 : w4.cell? ⟨gb976, 2, none⟩ = some (.int .i64 0) := (blk_cell BK976.out 2).trans rfl; have hcz9_3 : w4.cell? ⟨gb976, 3, none⟩ = some (.int .i64 0) := (blk_cell BK976.out 3).trans rfl; have hfz9_0 := blk_frozen BK976.out 0; have hfz9_1 := blk_frozen BK976.out 1; have hfz9_2 := blk_frozen BK976.out 2; have hfz9_3 := blk_frozen BK976.out 3; have hcz10_0 : w4.cell? ⟨gb975, 0, none⟩ = some (.int .i64 0) := (blk_cell BK975.out 0).trans rfl; have hcz10_1 : w4.cell? ⟨gb975, 1, none⟩ = some (.int .i64 0) := (blk_cell BK975.out 1).trans rfl; have hcz10_2 : w4.cell? ⟨gb975, 2, none⟩ = some (.int .i64 0) := (blk_cell BK975.out 2).trans rfl; have hcz10_3 : w4.cell? ⟨gb975, 3, none⟩ = some (.int .i64 0) := (blk_cell BK975.out 3).trans rfl; have hfz10_0 := blk_frozen BK975.out 0; have hfz10_1 := blk_frozen BK975.out 1; have hfz10_2 := blk_frozen BK975.out 2; have hfz10_3 := blk_frozen BK975.out 3))
  refine bodyPost_ret (results_cell_row rfl _ _ gb975 81 #[.int .i64 a0_0, .int .i64 a0_1, .int .i64 a0_2, .int .i64 a0_3] (0, 0) _ rfl (by (with_reducible repeat (first | refine blk_drewN ?_ _ | refine blk_drew ?_ | refine blk_alloc ?_ _)); refine blk_put (cs := #[.int .i64 a0_0, .int .i64 a0_1, .int .i64 a0_2, .int .i64 0]) ?_ 3 _ rfl; (with_reducible repeat (first | refine blk_drewN ?_ _ | refine blk_drew ?_ | refine blk_alloc ?_ _)); refine blk_put (cs := #[.int .i64 a0_0, .int .i64 a0_1, .int .i64 0, .int .i64 0]) ?_ 2 _ rfl; (with_reducible repeat (first | refine blk_drewN ?_ _ | refine blk_drew ?_ | refine blk_alloc ?_ _)); refine blk_put (cs := #[.int .i64 a0_0, .int .i64 0, .int .i64 0, .int .i64 0]) ?_ 1 _ rfl; (with_reducible repeat (first | refine blk_drewN ?_ _ | refine blk_drew ?_ | refine blk_alloc ?_ _)); refine blk_put (cs := #[.int .i64 0, .int .i64 0, .int .i64 0, .int .i64 0]) ?_ 0 _ rfl; (with_reducible repeat (first | refine blk_drewN ?_ _ | refine blk_drew ?_ | refine blk_alloc ?_ _)); refine blk_far ?_ NB975_976.out _; (with_reducible repeat (first | refine blk_drewN ?_ _ | refine blk_drew ?_ | refine blk_alloc ?_ _)); refine blk_far ?_ NB975_976.out _; (with_reducible repeat (first | refine blk_drewN ?_ _ | refine blk_drew ?_ | refine blk_alloc ?_ _)); refine blk_far ?_ NB975_976.out _; (with_reducible repeat (first | refine blk_drewN ?_ _ | refine blk_drew ?_ | refine blk_alloc ?_ _)); refine blk_far ?_ NB975_976.out _; (with_reducible repeat (first | refine blk_drewN ?_ _ | refine blk_drew ?_ | refine blk_alloc ?_ _)); exact BK975.out) Try.underlying81 rfl (by kernel_rfl)) rfl ?_
  exact ⟨by first | rfl | (simp [errW_none, errW_some] <;> rfl) | (simp [*, errW_none, errW_some] <;> rfl), by repeat (first | (with_reducible first | exact HB.out | apply below_alloc | apply pw_below_drewN | apply below_drew1 | refine below_set ?_ GE974.out | refine below_set ?_ GE975.out | refine below_set ?_ GE976.out) | exact HB.out)⟩

end Go.Proofs.Ytlopmffdebhpfaa.G

/-! ## G64 -/
namespace Go.Proofs.Ytlopmffdebhpfaa.G
open Go.RowKit Go.Proofs.YtlopmffdebhpfaaW.PrintWords Go.Proofs.YtlopmffdebhpfaaW.PrintLast Go.Proofs.YtlopmffdebhpfaaW.PrintMore
attribute [local go_sem] max2_int min2_int max_two min_two max_three min_three max_four min_four
set_option linter.unusedVariables false
set_option linter.unusedSimpArgs false

/-! ### laws_eqIntS: function 64 -/
def laws_eqIntS.l0 : Nat → List Int → List Int → Int → Option (Bool)
  | 0, _, _, _ => none
  | k + 1, x0, x1, x5 => if x5 < (x0.length : Int) then (if 0 ≤ x5 then (if x5 < (x1.length : Int) then (if (rd x0 x5) = (rd x1 x5) then (laws_eqIntS.l0 k x0 x1 (wrap64 (x5 + 1))) else (some false)) else (none)) else (none)) else (some true)
def laws_eqIntS.f (k : Nat) (l0 : List Int) (l1 : List Int) : Option (Bool) := if (l0.length : Int) = (l1.length : Int) then (laws_eqIntS.l0 k l0 l1 0) else (some false)
set_option maxHeartbeats 8000000 in
set_option maxRecDepth 100000 in
theorem laws_eqIntS.calls (k : Nat) (A0 : Option Addr) (c0 : Nat) (l0 : List Int) (A1 : Option Addr) (c1 : Nat) (l1 : List Int) (r : Bool) (w : World) (hr0 : Kd.C (Kd.int .i64) w A0 l0.length l0) (hc0 : l0.length ≤ c0) (hr1 : Kd.C (Kd.int .i64) w A1 l1.length l1) (hc1 : l1.length ≤ c1) (h : laws_eqIntS.f k l0 l1 = some r) :
    Calls Try.prog 64 #[.slice A0 l0.length c0, .slice A1 l1.length c1] w fun e w' => e = .returned (.bool r) ∧ Drawn0 w w' := by
  have HR0 := Aside0.mk hr0
  have HC0 := Aside0.mk hc0
  clear hr0 hc0
  have HR1 := Aside0.mk hr1
  have HC1 := Aside0.mk hc1
  clear hr1 hc1
  have H : (if (l0.length : Int) = (l1.length : Int) then (laws_eqIntS.l0 k l0 l1 0) else (some false)) = some r := h
  clear h
  by_cases c3 : (l0.length : Int) = (l1.length : Int)
  · rw [if_pos c3] at H
    have c3b0 : ((l0.length : Int) == (l1.length : Int)) = true := beq_iff_eq.mpr c3
    have c3b1 : ((l0.length : Int) != (l1.length : Int)) = false := bne_eq_false_iff_eq.mpr c3
    have c3b2 : (l0.length == l1.length) = true := by first | simpa using c3 | (simp at c3 ⊢; omega)
    clear c3
    have H' := Aside0.mk H
    clear H
    go_enter Try.func64, Try.ntmps64
    go_wp2
    repeat (go_quiet (fail); try go_wp2)
    go_loopg [5] k (fun kq v5 w' => ∃ (x5_1 : Int), v5 = .int .i64 x5_1 ∧ Aside0 (laws_eqIntS.l0 kq l0 l1 x5_1 = some r) ∧ Aside0 (kq ≤ k) ∧ Drawn0 w w')
    case atStart => exact ⟨(0), (by first | rfl | (simp; done) | (simp [*]; done)), H', ⟨Nat.le_refl _⟩, by repeat (first | exact Drawn0.refl _ | apply Drawn0.step)⟩
    case round =>
      clear H'
      try clear c1
      try clear p2
      try clear c3
      try clear c3b0
      try clear c3b1
      try clear c3b2
      obtain ⟨x5_1, rfl, HA, HK1, ⟨m1, rfl⟩⟩ := hrel
      cases gk with
      | zero => exact absurd HA.out (by simp [laws_eqIntS.l0])
      | succ k1 =>
        have H := HA.out
        clear HA
        simp only [laws_eqIntS.l0] at H
        by_cases c4 : x5_1 < (l0.length : Int)
        · rw [if_pos c4] at H
          have c4b0 : decide (x5_1 < (l0.length : Int)) = true := decide_eq_true c4
          clear c4
          by_cases c5 : 0 ≤ x5_1
          · rw [if_pos c5] at H
            have c5b0 : decide (0 ≤ x5_1) = true := decide_eq_true c5
            clear c5
            by_cases c6 : x5_1 < (l1.length : Int)
            · rw [if_pos c6] at H
              have c6b0 : decide (x5_1 < (l1.length : Int)) = true := decide_eq_true c6
              clear c6
              by_cases c7 : (rd l0 x5_1) = (rd l1 x5_1)
              · rw [if_pos c7] at H
                have c7b0 : ((rd l0 x5_1) == (rd l1 x5_1)) = true := beq_iff_eq.mpr c7
                have c7b1 : ((rd l0 x5_1) != (rd l1 x5_1)) = false := bne_eq_false_iff_eq.mpr c7
                clear c7
                have H' := Aside0.mk H
                clear H
                have p451 : 0 ≤ (x5_1 : Int) := of_decide_eq_true (by first | (with_reducible assumption) | assumption)
                have q451 : x5_1 < (l0.length : Int) := of_decide_eq_true (by first | (with_reducible assumption) | assumption)
                obtain ⟨ad451, e451, hx451_0⟩ := Kd.at_int HR0.out x5_1 p451 q451
                cases e451
                replace p451 := eq_true p451
                replace q451 := eq_true q451
                have p452 : 0 ≤ (x5_1 : Int) := of_decide_eq_true (by first | (with_reducible assumption) | assumption)
                have q452 : x5_1 < (l1.length : Int) := of_decide_eq_true (by first | (with_reducible assumption) | assumption)
                obtain ⟨ad452, e452, hx452_0⟩ := Kd.at_int HR1.out x5_1 p452 q452
                cases e452
                replace p452 := eq_true p452
                replace q452 := eq_true q452
                go_wp2
                repeat (go_quiet (fail); try go_wp2)
                go_roundg k1
                case measure => have := HK1.out; omega
                case rel => exact ⟨(wrap64 (x5_1 + 1)), (by first | rfl | (simp; done) | (simp [*]; done)), H', ⟨by have := HK1.out; omega⟩, by repeat (first | exact Drawn0.refl _ | apply Drawn0.step)⟩
              · rw [if_neg c7] at H
                have c7b0 : ((rd l0 x5_1) == (rd l1 x5_1)) = false := beq_eq_false_iff_ne.mpr c7
                have c7b1 : ((rd l0 x5_1) != (rd l1 x5_1)) = true := bne_iff_ne.mpr c7
                obtain rfl := Option.some.inj H
                have p451 : 0 ≤ (x5_1 : Int) := of_decide_eq_true (by first | (with_reducible assumption) | assumption)
                have q451 : x5_1 < (l0.length : Int) := of_decide_eq_true (by first | (with_reducible assumption) | assumption)
                obtain ⟨ad451, e451, hx451_0⟩ := Kd.at_int HR0.out x5_1 p451 q451
                cases e451
                replace p451 := eq_true p451
                replace q451 := eq_true q451
                have p452 : 0 ≤ (x5_1 : Int) := of_decide_eq_true (by first | (with_reducible assumption) | assumption)
                have q452 : x5_1 < (l1.length : Int) := of_decide_eq_true (by first | (with_reducible assumption) | assumption)
                obtain ⟨ad452, e452, hx452_0⟩ := Kd.at_int HR1.out x5_1 p452 q452
                cases e452
                replace p452 := eq_true p452
                replace q452 := eq_true q452
                go_wp2
                repeat (go_quiet (fail); try go_wp2)
                go_ret
                exact ⟨by first | rfl | (simp; done) | (simp [*]; done), by repeat (first | exact Drawn0.refl _ | apply Drawn0.step)⟩
            · rw [if_neg c6] at H
              exact absurd H (by simp)
          · rw [if_neg c5] at H
            exact absurd H (by simp)
        · rw [if_neg c4] at H
          have c4b0 : decide (x5_1 < (l0.length : Int)) = false := decide_eq_false c4
          clear c4
          obtain rfl := Option.some.inj H
          go_wp2
          repeat (go_quiet (fail); try go_wp2)
          go_ret
          exact ⟨by first | rfl | (simp; done) | (simp [*]; done), by repeat (first | exact Drawn0.refl _ | apply Drawn0.step)⟩
  · rw [if_neg c3] at H
    have c3b0 : ((l0.length : Int) == (l1.length : Int)) = false := beq_eq_false_iff_ne.mpr c3
    have c3b1 : ((l0.length : Int) != (l1.length : Int)) = true := bne_iff_ne.mpr c3
    have c3b2 : (l0.length == l1.length) = false := by first | simpa using c3 | (simp at c3 ⊢; omega)
    obtain rfl := Option.some.inj H
    go_enter Try.func64, Try.ntmps64
    go_wp2
    repeat (go_quiet (fail); try go_wp2)
    go_ret
    exact ⟨by first | rfl | (simp; done) | (simp [*]; done), by repeat (first | exact Drawn0.refl _ | apply Drawn0.step)⟩

end Go.Proofs.Ytlopmffdebhpfaa.G

/-! ## G65 -/
namespace Go.Proofs.Ytlopmffdebhpfaa.G
open Go.RowKit Go.Proofs.YtlopmffdebhpfaaW.PrintWords Go.Proofs.YtlopmffdebhpfaaW.PrintLast Go.Proofs.YtlopmffdebhpfaaW.PrintMore
attribute [local go_sem] max2_int min2_int max_two min_two max_three min_three max_four min_four
set_option linter.unusedVariables false
set_option linter.unusedSimpArgs false

/-! ### laws_markIntS: function 65 -/
def laws_markIntS.l0 : Nat → List Int → Int → Int → Option (Int × List Int)
  | 0, _, _, _ => none
  | k + 1, x0, x1, x5 => if x5 < (x0.length : Int) then (if 0 ≤ x5 then (laws_markIntS.l0 k (x0.set (x5 : Int).toNat x1) (wrap64 (x1 + 1)) (wrap64 (x5 + 1))) else (none)) else (some (x1, x0))
def laws_markIntS.f (k : Nat) (l0 : List Int) (a1 : Int) : Option (Int × List Int) := laws_markIntS.l0 k l0 a1 0
set_option maxHeartbeats 8000000 in
set_option maxRecDepth 100000 in
theorem laws_markIntS.calls (k : Nat) (P0_ : Nat → Prop) (u9000_ : Value) (l0 : List Int) (a1 : Int) (r1 : Int) (r2 : List Int) (w0 w : World) (hB : Below w0.heap.size w0 w) (ho0 : Kd.R (Kd.int .i64) 3 w w0.heap.size P0_ u9000_ l0) (h : laws_markIntS.f k l0 a1 = some (r1, r2)) :
    Calls Try.prog 65 #[u9000_, .int .i64 a1] w fun e w' => e = .returned (.int .i64 r1) ∧ Kd.R (Kd.int .i64) 3 w' w0.heap.size (fun k_ => (P0_ k_ ∨ w.heap.size ≤ k_)) u9000_ r2 ∧ Below w0.heap.size w0 w' ∧ Kept w w' (fun k_ => P0_ k_) := by
  have HO0 := Aside0.mk (show Kd.R (Kd.int .i64) 3 w w0.heap.size (fun k_ => (P0_ k_ ∨ w.heap.size ≤ k_)) u9000_ l0 from Kd.R_mono ho0 (fun k_ hk => (.inl hk)))
  have HK := Aside0.mk (Kept.refl w (fun k_ => P0_ k_))
  have HW0 := Aside0.mk hB.size
  have HB := Aside0.mk hB
  clear hB
  have H : (laws_markIntS.l0 k l0 a1 0) = some (r1, r2) := h
  clear h
  have H' := Aside0.mk H
  clear H
  go_enter Try.func65, Try.ntmps65
  go_wp2
  go_loopg [1, 5] k (fun kq v1 v5 w' => ∃ (x0_1 : List Int) (x1_1 : Int) (x5_1 : Int), v1 = .int .i64 x1_1 ∧ v5 = .int .i64 x5_1 ∧ Aside0 (laws_markIntS.l0 kq x0_1 x1_1 x5_1 = some (r1, r2)) ∧ Aside0 (kq ≤ k) ∧ Aside0 (Kd.R (Kd.int .i64) 3 w' w0.heap.size (fun k_ => (P0_ k_ ∨ w.heap.size ≤ k_)) u9000_ x0_1) ∧ Aside0 (Kept w w' (fun k_ => P0_ k_)) ∧ Aside0 (Below w0.heap.size w0 w'))
  case atStart => exact ⟨(l0), (a1), (0), (by first | rfl | (simp; done) | (simp [*]; done)), (by first | rfl | (simp; done) | (simp [*]; done)), H', ⟨Nat.le_refl _⟩, ⟨by (with_reducible repeat (first | apply Kd.R_alloc | apply Kd.R_drewN | apply Kd.R_drew)); exact HO0.out⟩, ⟨by repeat (first | (with_reducible first | exact HK.out | apply Kept.alloc | apply Kept.drewN | apply Kept.drew) | exact HK.out)⟩, ⟨by repeat (first | (with_reducible first | exact HB.out | apply below_alloc | apply pw_below_drewN | apply below_drew1) | exact HB.out)⟩⟩
  case round =>
    clear H'
    try clear p2
    obtain ⟨x0_1, x1_1, x5_1, rfl, rfl, HA, HK1, HO_0, HK, HB⟩ := hrel
    cases gk with
    | zero => exact absurd HA.out (by simp [laws_markIntS.l0])
    | succ k1 =>
      have H := HA.out
      clear HA
      simp only [laws_markIntS.l0] at H
      by_cases c3 : x5_1 < (x0_1.length : Int)
      · rw [if_pos c3] at H
        have c3b0 : decide (x5_1 < (x0_1.length : Int)) = true := decide_eq_true c3
        clear c3
        by_cases c4 : 0 ≤ x5_1
        · rw [if_pos c4] at H
          have c4b0 : decide (0 ≤ x5_1) = true := decide_eq_true c4
          clear c4
          obtain ⟨y453, hy453⟩ : ∃ y_ : List Int, y_ = (x0_1.set (x5_1 : Int).toNat x1_1) := ⟨_, rfl⟩
          replace H : (laws_markIntS.l0 k1 y453 (wrap64 (x1_1 + 1)) (wrap64 (x5_1 + 1))) = some (r1, r2) := by first | (rw [hy453]; with_reducible exact H) | (have H2_ := (Option.bind_some _ _).symm.trans H; rw [hy453]; with_reducible exact H2_) | (have H2_ := (Option.bind_some _ _).symm.trans H; with_reducible exact H2_) | with_reducible exact H | (rw [hy453]; exact H) | exact H
          have Ny453 := Aside0.mk hy453
          clear hy453
          have H' := Aside0.mk H
          clear H
          obtain ⟨Ao6, co6, eo6⟩ := Kd.R_slice HO_0.out
          subst eo6
          have p5 : 0 ≤ (x5_1 : Int) := of_decide_eq_true (by first | (with_reducible assumption) | assumption)
          have q5 : (x5_1 : Int) < ((x0_1.length : Int) : Int) := of_decide_eq_true (by first | (with_reducible assumption) | assumption)
          obtain ⟨go5, co5, eo5, gb5, gl5, cl5, HG5⟩ := Kd.R_form HO_0.out (by omega)
          (first | cases eo5 | (injection eo5 with ea_ en_ ec_; (first | subst ea_ | (injection ea_ with ea_; subst ea_)); subst ec_; clear en_))
          have GB5 := Aside0.mk gb5
          have GG5 := Aside0.mk HG5
          clear gb5 gl5 HG5
          have HMgo5 := Aside0.mk (show (P0_ go5 ∨ w.heap.size ≤ go5) from (HO_0.out.1 _ rfl))
          obtain ⟨hx5_0, hf5_0⟩ := Kd.R_celln 0 HO_0.out (x5_1 : Int) p5 q5
          replace p5 := eq_true p5
          replace q5 := eq_true q5
          have HP7 := Kd.R_putg HO_0.out (x5_1 : Int) x1_1
          go_wp2_with (first | ((with_reducible refine gate_store (t := 3) (p := 15) rfl ?_); refine store_event (t := 3) (p := 15) (v := ?vo_w8) (w1 := (wr.setCell ⟨go5, (x5_1 : Int).toNat, none⟩ (.int .i64 x1_1))) ?hg ?ho ?hn ?hr ?_; (case ho => rfl); (case hg => rfl); (case hn => rfl); (case hr => first | (go_simp; done) | (go_simp; rfl)); intro w8 hw; have hg : wr.grownBy w8 (some go5) := (by rw [hw]; exact HP7.2); have hp_ : Kd.R (Kd.int .i64) 3 w8 w0.heap.size (fun k_ => (P0_ k_ ∨ w.heap.size ≤ k_)) (.slice (some ⟨go5, 0, none⟩) x0_1.length co6) y453 := (by rw [hw, Ny453.out]; exact HP7.1); clear HP7; have n0_ := Aside0.mk (hp_); have n1_ := Aside0.mk ((by rw [hw]; exact below_set (HB.out) GB5.out : Below w0.heap.size w0 w8)); have n2_ := Aside0.mk (Kept.of_grown (S := (fun k_ => P0_ k_)) hg (by repeat (first | (with_reducible first | exact HK.out | apply Kept.alloc | apply Kept.drewN | apply Kept.drew) | exact HK.out)) (fun k_ e_ => (HO_0.out.1 k_ e_))); clear HO_0; clear HB; clear HK; have HO_0 := n0_; have HB := n1_; have HK := n2_; clear n0_ n1_ n2_; clear hg hw hp_))
          go_roundg k1
          case measure => have := HK1.out; omega
          case rel => exact ⟨(y453), (wrap64 (x1_1 + 1)), (wrap64 (x5_1 + 1)), (by first | rfl | (simp; done) | (simp [*]; done)), (by first | rfl | (simp; done) | (simp [*]; done)), H', ⟨by have := HK1.out; omega⟩, ⟨by (with_reducible repeat (first | apply Kd.R_alloc | apply Kd.R_drewN | apply Kd.R_drew)); exact HO_0.out⟩, ⟨by repeat (first | (with_reducible first | exact HK.out | apply Kept.alloc | apply Kept.drewN | apply Kept.drew) | exact HK.out)⟩, ⟨by repeat (first | (with_reducible first | exact HB.out | apply below_alloc | apply pw_below_drewN | apply below_drew1) | exact HB.out)⟩⟩
        · rw [if_neg c4] at H
          exact absurd H (by simp)
      · rw [if_neg c3] at H
        have c3b0 : decide (x5_1 < (x0_1.length : Int)) = false := decide_eq_false c3
        clear c3
        simp only [Option.some.injEq, Prod.mk.injEq] at H
        obtain ⟨rfl, rfl⟩ := H
        obtain ⟨Ao9, co9, eo9⟩ := Kd.R_slice HO_0.out
        subst eo9
        go_wp2
        go_ret
        exact ⟨by first | rfl | (simp [errW_none, errW_some] <;> rfl) | (simp [*, errW_none, errW_some] <;> rfl), by (with_reducible repeat (first | apply Kd.R_alloc | apply Kd.R_drewN | apply Kd.R_drew)); exact HO_0.out, by repeat (first | (with_reducible first | exact HB.out | apply below_alloc | apply pw_below_drewN | apply below_drew1) | exact HB.out), by repeat (first | (with_reducible first | exact HK.out | apply Kept.alloc | apply Kept.drewN | apply Kept.drew) | exact HK.out)⟩

end Go.Proofs.Ytlopmffdebhpfaa.G

/-! ## G66 -/
namespace Go.Proofs.Ytlopmffdebhpfaa.G
open Go.RowKit Go.Proofs.YtlopmffdebhpfaaW.PrintWords Go.Proofs.YtlopmffdebhpfaaW.PrintLast Go.Proofs.YtlopmffdebhpfaaW.PrintMore
attribute [local go_sem] max2_int min2_int max_two min_two max_three min_three max_four min_four
set_option linter.unusedVariables false
set_option linter.unusedSimpArgs false

/-! ### laws_heldIntS: function 66 -/
def laws_heldIntS.l0 : Nat → List Int → Int → Int → Option (Int)
  | 0, _, _, _ => none
  | k + 1, x0, x1, x5 => if x5 < (x0.length : Int) then (if 0 ≤ x5 then (if (rd x0 x5) = x1 then (laws_heldIntS.l0 k x0 (wrap64 (x1 + 1)) (wrap64 (x5 + 1))) else (some (-1))) else (none)) else (some x1)
def laws_heldIntS.f (k : Nat) (l0 : List Int) (a1 : Int) : Option (Int) := laws_heldIntS.l0 k l0 a1 0
set_option maxHeartbeats 8000000 in
set_option maxRecDepth 100000 in
theorem laws_heldIntS.calls (k : Nat) (A0 : Option Addr) (c0 : Nat) (l0 : List Int) (a1 : Int) (r : Int) (w : World) (hr0 : Kd.C (Kd.int .i64) w A0 l0.length l0) (hc0 : l0.length ≤ c0) (h : laws_heldIntS.f k l0 a1 = some r) :
    Calls Try.prog 66 #[.slice A0 l0.length c0, .int .i64 a1] w fun e w' => e = .returned (.int .i64 r) ∧ Drawn0 w w' := by
  have HR0 := Aside0.mk hr0
  have HC0 := Aside0.mk hc0
  clear hr0 hc0
  have H : (laws_heldIntS.l0 k l0 a1 0) = some r := h
  clear h
  have H' := Aside0.mk H
  clear H
  go_enter Try.func66, Try.ntmps66
  go_wp2
  go_loopg [1, 5] k (fun kq v1 v5 w' => ∃ (x1_1 : Int) (x5_1 : Int), v1 = .int .i64 x1_1 ∧ v5 = .int .i64 x5_1 ∧ Aside0 (laws_heldIntS.l0 kq l0 x1_1 x5_1 = some r) ∧ Aside0 (kq ≤ k) ∧ Drawn0 w w')
  case atStart => exact ⟨(a1), (0), (by first | rfl | (simp; done) | (simp [*]; done)), (by first | rfl | (simp; done) | (simp [*]; done)), H', ⟨Nat.le_refl _⟩, by repeat (first | exact Drawn0.refl _ | apply Drawn0.step)⟩
  case round =>
    clear H'
    try clear p2
    obtain ⟨x1_1, x5_1, rfl, rfl, HA, HK1, ⟨m1, rfl⟩⟩ := hrel
    cases gk with
    | zero => exact absurd HA.out (by simp [laws_heldIntS.l0])
    | succ k1 =>
      have H := HA.out
      clear HA
      simp only [laws_heldIntS.l0] at H
      by_cases c3 : x5_1 < (l0.length : Int)
      · rw [if_pos c3] at H
        have c3b0 : decide (x5_1 < (l0.length : Int)) = true := decide_eq_true c3
        clear c3
        by_cases c4 : 0 ≤ x5_1
        · rw [if_pos c4] at H
          have c4b0 : decide (0 ≤ x5_1) = true := decide_eq_true c4
          clear c4
          by_cases c5 : (rd l0 x5_1) = x1_1
          · rw [if_pos c5] at H
            have c5b0 : ((rd l0 x5_1) == x1_1) = true := beq_iff_eq.mpr c5
            have c5b1 : ((rd l0 x5_1) != x1_1) = false := bne_eq_false_iff_eq.mpr c5
            clear c5
            have H' := Aside0.mk H
            clear H
            have p454 : 0 ≤ (x5_1 : Int) := of_decide_eq_true (by first | (with_reducible assumption) | assumption)
            have q454 : x5_1 < (l0.length : Int) := of_decide_eq_true (by first | (with_reducible assumption) | assumption)
            obtain ⟨ad454, e454, hx454_0⟩ := Kd.at_int HR0.out x5_1 p454 q454
            cases e454
            replace p454 := eq_true p454
            replace q454 := eq_true q454
            go_wp2
            go_roundg k1
            case measure => have := HK1.out; omega
            case rel => exact ⟨(wrap64 (x1_1 + 1)), (wrap64 (x5_1 + 1)), (by first | rfl | (simp; done) | (simp [*]; done)), (by first | rfl | (simp; done) | (simp [*]; done)), H', ⟨by have := HK1.out; omega⟩, by repeat (first | exact Drawn0.refl _ | apply Drawn0.step)⟩
          · rw [if_neg c5] at H
            have c5b0 : ((rd l0 x5_1) == x1_1) = false := beq_eq_false_iff_ne.mpr c5
            have c5b1 : ((rd l0 x5_1) != x1_1) = true := bne_iff_ne.mpr c5
            obtain rfl := Option.some.inj H
            have p454 : 0 ≤ (x5_1 : Int) := of_decide_eq_true (by first | (with_reducible assumption) | assumption)
            have q454 : x5_1 < (l0.length : Int) := of_decide_eq_true (by first | (with_reducible assumption) | assumption)
            obtain ⟨ad454, e454, hx454_0⟩ := Kd.at_int HR0.out x5_1 p454 q454
            cases e454
            replace p454 := eq_true p454
            replace q454 := eq_true q454
            go_wp2
            go_ret
            exact ⟨by first | rfl | (simp; done) | (simp [*]; done), by repeat (first | exact Drawn0.refl _ | apply Drawn0.step)⟩
        · rw [if_neg c4] at H
          exact absurd H (by simp)
      · rw [if_neg c3] at H
        have c3b0 : decide (x5_1 < (l0.length : Int)) = false := decide_eq_false c3
        clear c3
        obtain rfl := Option.some.inj H
        go_wp2
        go_ret
        exact ⟨by first | rfl | (simp; done) | (simp [*]; done), by repeat (first | exact Drawn0.refl _ | apply Drawn0.step)⟩

end Go.Proofs.Ytlopmffdebhpfaa.G

/-! ## Law13 -/
namespace Go.Proofs.Ytlopmffdebhpfaa.G
open Go.RowKit Go.Proofs.YtlopmffdebhpfaaW.PrintWords Go.Proofs.YtlopmffdebhpfaaW.PrintLast Go.Proofs.YtlopmffdebhpfaaW.PrintMore
set_option linter.unusedVariables false
set_option linter.unusedSimpArgs false

/-- n numbers from m on. -/
def imarks : Nat → Int → List Int
  | 0, _ => []
  | n + 1, m => m :: imarks n (m + 1)
theorem imarks_length : ∀ (n : Nat) (m : Int), (imarks n m).length = n
  | 0, _ => rfl
  | n + 1, m => by simp [imarks, imarks_length n]
set_option maxHeartbeats 4000000 in
set_option maxRecDepth 100000 in
theorem laws_FnExactFreeList.small (k : Nat) (A0 : Option Addr) (c0 : Nat) (l0 : List (List Int)) (A1 : Option Addr) (c1 : Nat) (l1 : List S184) (z0 z1 z2 z3 : Int) (s : Int) (w : World) (hr0 : Kd.C (Kd.slice 5 (Kd.int .u8)) w A0 l0.length l0) (hc0 : l0.length ≤ c0) (hr1 : Kd.C k184 w A1 l1.length l1) (hc1 : l1.length ≤ c1) (hsz : laws_szDisk.f k l0 l1 1048576 = some s) (hs : s < 0) :
    Calls Try.prog 13 #[.agg #[.slice A0 l0.length c0, .slice A1 l1.length c1], .agg #[.int .i64 z0, .int .i64 z1, .int .i64 z2, .int .i64 z3]] w fun e w' => e = .returned (.bool true) ∧ Below w.heap.size w w' := by
  have hu39 := Try.underlying39
  have hu44 := Try.underlying44
  have hu81 := Try.underlying81
  have hu90 := Try.underlying90
  have HR0 := Aside0.mk hr0
  have HR1 := Aside0.mk hr1
  have HC0 := Aside0.mk hc0
  have HC1 := Aside0.mk hc1
  have N0 := Aside0.mk hsz
  clear hr0 hr1 hc0 hc1 hsz
  go_enter Try.func13, Try.ntmps13
  go_wp2_with (first | ((with_reducible refine gate_dst (N := 2) rfl ?_); refine box_event ?hg (N := 2) ?hd (cs := #[.slice A0 l0.length c0, .slice A1 l1.length c1]) (t := 39) ?hr ?_; (case hd => rfl); (case hg => rfl); (case hr => first | (go_simp; done) | (go_simp; rfl)); intro gp hgr w1 hbox hbel; have BP_ := Aside0.mk hbox; have Ggpw : Aside0 (w.heap.size ≤ gp) := ⟨by rw [hgr]; exact Nat.le_refl _⟩; have HB := Aside0.mk hbel; have BP := BP_; have cgp0 : w1.cell? ⟨gp, 0, none⟩ = some (.slice A0 l0.length c0) := (blk_cell BP.out 0).trans rfl; have cgp1 : w1.cell? ⟨gp, 1, none⟩ = some (.slice A1 l1.length c1) := (blk_cell BP.out 1).trans rfl; clear hbox hbel hgr) | ((with_reducible refine gate_dst (N := 3) rfl ?_); refine box_event ?hg (N := 3) ?hd (cs := #[.int .i64 z0, .int .i64 z1, .int .i64 z2, .int .i64 z3]) (t := 90) ?hr ?_; (case hd => rfl); (case hg => rfl); (case hr => first | (go_simp; done) | (go_simp; rfl)); intro g3 hgr w1b hbox hbel; have B3_ := Aside0.mk hbox; have Gg3w : Aside0 (w.heap.size ≤ g3) := ⟨by rw [hgr]; exact HB.out.size⟩; have HB := Aside0.mk (below_step HB.out hbel); have BP := Aside0.mk (blk_below BP.out hbel); have B3 := B3_; have cgp0 : w1b.cell? ⟨gp, 0, none⟩ = some (.slice A0 l0.length c0) := (blk_cell BP.out 0).trans rfl; have cgp1 : w1b.cell? ⟨gp, 1, none⟩ = some (.slice A1 l1.length c1) := (blk_cell BP.out 1).trans rfl; clear hbox hbel hgr))
  refine (laws_szDisk.calls k A0 c0 l0 A1 c1 l1 1048576 s _ (Kd.C_below HR0.out HB.out) HC0.out (Kd.C_below HR1.out HB.out) HC1.out N0.out).mono ?_
  rintro e w2 ⟨rfl, hb⟩
  have HB := Aside0.mk (below_step HB.out hb)
  have BP := Aside0.mk (blk_below BP.out hb)
  have B3 := Aside0.mk (blk_below B3.out hb)
  clear hb
  have d1 : decide (s < 0) = true := decide_eq_true hs
  go_wp2_with fail
  go_ret
  exact ⟨rfl, HB.out⟩

def laws_FnExactFreeList.T5 : Bool × List (List Nat × List Nat) := (true, [([], []), ([0], [0]), ([], []), ([2, 1], [2]), ([1, 3, 3], [1, 3]), ([4], [4]), ([5], [5]), ([5], [5]), ([5], [5]), ([6, 4, 0, 1, 2, 3, 4, 5, 6], [6]), ([7, 9, 0, 1, 2, 3, 4, 5, 6, 7, 9], [7]), ([8, 10, 0, 1, 2, 3, 4, 5, 6, 7, 8, 9, 10], [8])])
def laws_FnExactFreeList.B5 : List Nat := [0, 1, 0, 7, 15, 31, 63, 63, 63, 127, 767, 2047]
theorem laws_FnExactFreeList.tab5 : rtab .any (opsOf Try.f13 5) = laws_FnExactFreeList.T5 := by kernel_rfl
theorem laws_FnExactFreeList.bits5 : waitsOk laws_FnExactFreeList.T5.2 laws_FnExactFreeList.B5 = true := by kernel_rfl
def laws_FnExactFreeList.T7 : Bool × List (List Nat × List Nat) := (true, [([], []), ([], []), ([1], [1]), ([0, 2, 2], [0, 2]), ([3], [3]), ([4], [4]), ([4], [4]), ([4], [4]), ([5, 3, 0, 1, 2, 3, 4, 5], [5]), ([6, 8, 0, 1, 2, 3, 4, 5, 6, 8], [6]), ([7, 9, 0, 1, 2, 3, 4, 5, 6, 7, 8, 9], [7])])
def laws_FnExactFreeList.B7 : List Nat := [0, 0, 2, 7, 15, 31, 31, 31, 63, 383, 1023]
theorem laws_FnExactFreeList.tab7 : rtab .any (opsOf Try.f13 7) = laws_FnExactFreeList.T7 := by kernel_rfl
theorem laws_FnExactFreeList.bits7 : waitsOk laws_FnExactFreeList.T7.2 laws_FnExactFreeList.B7 = true := by kernel_rfl
def laws_FnExactFreeList.T10 : Bool × List (List Nat × List Nat) := (true, [([], []), ([], []), ([1], [1]), ([0, 2, 2], [0, 2]), ([3], [3])])
def laws_FnExactFreeList.B10 : List Nat := [0, 0, 2, 7, 15]
theorem laws_FnExactFreeList.tab10 : rtab .any (opsOf Try.f13 10) = laws_FnExactFreeList.T10 := by kernel_rfl
theorem laws_FnExactFreeList.bits10 : waitsOk laws_FnExactFreeList.T10.2 laws_FnExactFreeList.B10 = true := by kernel_rfl
def laws_FnExactFreeList.T28 : Bool × List (List Nat × List Nat) := (true, [([], []), ([0], [0]), ([], []), ([2, 1], [2]), ([1, 3, 3], [1, 3]), ([4], [4]), ([5], [5]), ([5], [5]), ([5], [5]), ([6, 4, 0, 1, 2, 3, 4, 5, 6], [6]), ([7, 9, 0, 1, 2, 3, 4, 5, 6, 7, 9], [7]), ([8, 10, 0, 1, 2, 3, 4, 5, 6, 7, 8, 9, 10], [8])])
def laws_FnExactFreeList.B28 : List Nat := [0, 1, 0, 7, 15, 31, 63, 63, 63, 127, 767, 2047]
theorem laws_FnExactFreeList.tab28 : rtab .any (opsOf Try.f13 28) = laws_FnExactFreeList.T28 := by kernel_rfl
theorem laws_FnExactFreeList.bits28 : waitsOk laws_FnExactFreeList.T28.2 laws_FnExactFreeList.B28 = true := by kernel_rfl
set_option maxHeartbeats 16000000 in
set_option maxRecDepth 100000 in
theorem laws_FnExactFreeList.full (k k2 k3 k4 k5 k6 k7 k8 : Nat) (A0 : Option Addr) (c0 : Nat) (l0 : List (List Int)) (A1 : Option Addr) (c1 : Nat) (l1 : List S184) (z0 z1 z2 z3 : Int) (s : Int) (d0 : List (List Int)) (d1 : List S185) (ra rb : List Int) (rc : Bool) (w : World) (hr0 : Kd.C (Kd.slice 5 (Kd.int .u8)) w A0 l0.length l0) (hc0 : l0.length ≤ c0) (hr1 : Kd.C k184 w A1 l1.length l1) (hc1 : l1.length ≤ c1)
    (hsz : laws_szDisk.f k l0 l1 1048576 = some s) (hs : ¬ s < 0) (hto : laws_toDisk.f k2 l0 l1 = some (d0, d1)) (hsp : spec_FreeList.f k3 d0 d1 z0 z1 z2 z3 = some (ra, rb, rc)) (him : impl_FreeList.f k4 d0 d1 z3 = some (ra, rb, rc))
    (hea : laws_eqIntS.f k5 ra ra = some true) (heb : laws_eqIntS.f k5 rb rb = some true) (hed : laws_eqDisk.f k6 d0 d1 d0 d1 = some true) (hsum : 1 + (totL d0 : Int) + totP d1 ≤ 4611686018427387904)
    (hma : laws_markIntS.f k7 ra 1 = some (1 + (ra.length : Int), imarks ra.length 1)) (hmb : laws_markIntS.f k7 rb (1 + (ra.length : Int)) = some (1 + (ra.length : Int) + (rb.length : Int), imarks rb.length (1 + (ra.length : Int))))
    (hha : laws_heldIntS.f k8 (imarks ra.length 1) 1 = some (1 + (ra.length : Int))) (hhb : laws_heldIntS.f k8 (imarks rb.length (1 + (ra.length : Int))) (1 + (ra.length : Int)) = some (1 + (ra.length : Int) + (rb.length : Int)))
    (hz3 : (Lit.int .i64 z3).wf = true) (hwf : ∀ p ∈ d1, (Lit.int .i64 p.f0).wf = true) :
    Calls Try.prog 13 #[.agg #[.slice A0 l0.length c0, .slice A1 l1.length c1], .agg #[.int .i64 z0, .int .i64 z1, .int .i64 z2, .int .i64 z3]] w fun e w' => e = .returned (.bool true) ∧ Below w.heap.size w w' := by
  have hu39 := Try.underlying39
  have hu44 := Try.underlying44
  have hu81 := Try.underlying81
  have hu90 := Try.underlying90
  have HR0 := Aside0.mk hr0
  have HR1 := Aside0.mk hr1
  have HC0 := Aside0.mk hc0
  have HC1 := Aside0.mk hc1
  have N0 := Aside0.mk hsz
  clear hr0 hr1 hc0 hc1 hsz
  have N1 := Aside0.mk hto
  have N2 := Aside0.mk hsp
  have N3 := Aside0.mk him
  have NA := Aside0.mk hea
  have NB := Aside0.mk heb
  have N5 := Aside0.mk hed
  have NS := Aside0.mk hsum
  have NMA := Aside0.mk hma
  have NMB := Aside0.mk hmb
  have NHA := Aside0.mk hha
  have NHB := Aside0.mk hhb
  have NZ := Aside0.mk hz3
  have NW := Aside0.mk hwf
  have e1 : decide (s < 0) = false := decide_eq_false hs
  have e2 : decide ((1 + (totL d0 : Int) + totP d1) < 0) = false := decide_eq_false (by omega)
  have e3 : decide ((1 + (ra.length : Int)) < 0) = false := decide_eq_false (by omega)
  have e4 : decide ((1 + (ra.length : Int) + (rb.length : Int)) < 0) = false := decide_eq_false (by omega)
  have e5 : (rc != rc) = false := by simp
  clear hto hsp him hea heb hed hsum hma hmb hha hhb hz3 hwf hs
  go_enter Try.func13, Try.ntmps13
  go_wp2_with (first | ((with_reducible refine gate_dst (N := 2) rfl ?_); refine box_event ?hg (N := 2) ?hd (cs := #[.slice A0 l0.length c0, .slice A1 l1.length c1]) (t := 39) ?hr ?_; (case hd => rfl); (case hg => rfl); (case hr => first | (go_simp; done) | (go_simp; rfl)); intro gp hgr w1 hbox hbel; have BP_ := Aside0.mk hbox; have Ggpw : Aside0 (w.heap.size ≤ gp) := ⟨by rw [hgr]; exact Nat.le_refl _⟩; have HB := Aside0.mk hbel; have BP := BP_; have cgp0 : w1.cell? ⟨gp, 0, none⟩ = some (.slice A0 l0.length c0) := (blk_cell BP.out 0).trans rfl; have cgp1 : w1.cell? ⟨gp, 1, none⟩ = some (.slice A1 l1.length c1) := (blk_cell BP.out 1).trans rfl; clear hbox hbel hgr) | ((with_reducible refine gate_dst (N := 3) rfl ?_); refine box_event ?hg (N := 3) ?hd (cs := #[.int .i64 z0, .int .i64 z1, .int .i64 z2, .int .i64 z3]) (t := 90) ?hr ?_; (case hd => rfl); (case hg => rfl); (case hr => first | (go_simp; done) | (go_simp; rfl)); intro g3 hgr w1b hbox hbel; have B3_ := Aside0.mk hbox; have Gg3w : Aside0 (w.heap.size ≤ g3) := ⟨by rw [hgr]; exact HB.out.size⟩; have HB := Aside0.mk (below_step HB.out hbel); have BP := Aside0.mk (blk_below BP.out hbel); have B3 := B3_; have cgp0 : w1b.cell? ⟨gp, 0, none⟩ = some (.slice A0 l0.length c0) := (blk_cell BP.out 0).trans rfl; have cgp1 : w1b.cell? ⟨gp, 1, none⟩ = some (.slice A1 l1.length c1) := (blk_cell BP.out 1).trans rfl; clear hbox hbel hgr))
  refine (laws_szDisk.calls k A0 c0 l0 A1 c1 l1 1048576 s _ (Kd.C_below HR0.out HB.out) HC0.out (Kd.C_below HR1.out HB.out) HC1.out N0.out).mono ?_
  rintro e w2 ⟨rfl, hb⟩
  have HB := Aside0.mk (below_step HB.out hb)
  have BP := Aside0.mk (blk_below BP.out hb)
  have B3 := Aside0.mk (blk_below B3.out hb)
  clear hb
  clear cgp0 cgp1
  go_wp2_with fail
  refine start_ (n := 12) (S := fun w' => w'.heap[gp]? = some (.cells #[.slice A0 l0.length c0, .slice A1 l1.length c1] 39 (0, 0)) ∧ w'.heap[g3]? = some (.cells #[.int .i64 z0, .int .i64 z1, .int .i64 z2, .int .i64 z3] 90 (0, 0))) (ds := []) #[false, false, false, false, false, false, false, false, false, false, false, false] (by kernel_rfl) rfl rfl (⟨blk_drew BP.out, blk_drew B3.out⟩) (fun hHeld => ?_); refine with_tabW laws_FnExactFreeList.tab5 laws_FnExactFreeList.bits5 (fun HT_ HW_ => ?_)
  have HB := Aside0.mk (below_drew1 HB.out)
  have BP := Aside0.mk (blk_drew BP.out)
  have B3 := Aside0.mk (blk_drew B3.out)
  refine take_ (i := 0) (N := some 25) (v := ?_) (a' := ?_) #[true, false, false, false, false, false, false, false, false, false, false, false] rfl rfl (take_ofW HT_.out HW_.out (by kernel_rfl)) (fun _ _ _ h => h) (Or.inl ⟨by rfl, ?_⟩) hHeld ?_ ?_
  rotate_left
  · intro w' s0
    have e0 : w'.cell? ⟨gp, 0, none⟩ = some (.slice A0 l0.length c0) := (blk_cell s0.1 0).trans rfl
    have e1 : w'.cell? ⟨gp, 1, none⟩ = some (.slice A1 l1.length c1) := (blk_cell s0.1 1).trans rfl
    clear s0
    go_simp
    with_reducible rfl
  rotate_left
  · simp only [Act.put, List.setIfInBounds_toArray, List.set_cons_zero, List.set_cons_succ, i64_w, i32_w]
    rfl
  refine take_ (i := 2) (N := some 27) (v := ?_) (a' := ?_) #[true, false, true, false, false, false, false, false, false, false, false, false] rfl rfl (take_ofW HT_.out HW_.out (by kernel_rfl)) (fun _ _ _ h => h) (Or.inl ⟨by rfl, ?_⟩) hHeld ?_ ?_
  rotate_left
  · intro w' s0
    have e0 : w'.cell? ⟨g3, 0, none⟩ = some (.int .i64 z0) := (blk_cell s0.2 0).trans rfl
    have e1 : w'.cell? ⟨g3, 1, none⟩ = some (.int .i64 z1) := (blk_cell s0.2 1).trans rfl
    have e2 : w'.cell? ⟨g3, 2, none⟩ = some (.int .i64 z2) := (blk_cell s0.2 2).trans rfl
    have e3 : w'.cell? ⟨g3, 3, none⟩ = some (.int .i64 z3) := (blk_cell s0.2 3).trans rfl
    clear s0
    go_simp
    with_reducible rfl
  rotate_left
  · simp only [Act.put, List.setIfInBounds_toArray, List.set_cons_zero, List.set_cons_succ, i64_w, i32_w]
    rfl
  refine one_ (i := 1) (N := some 26) #[true, true, true, false, false, false, false, false, false, false, false, false] rfl rfl (one_of HT_.out (by kernel_rfl)) (by decide) (fun K hK => ?_)
  refine goes_ Try.func26 (by kernel_rfl) rfl #[.agg #[.slice A0 l0.length c0, .slice A1 l1.length c1]] (by rfl) rfl rfl (by first | rfl | (simp only [List.map_toArray, List.map_cons, List.map_nil]; first | done | rfl)) ?_
  refine (laws_toDisk.apart k2 A0 c0 l0 A1 c1 l1 d0 d1 _ (Kd.C_below HR0.out HB.out) HC0.out (Kd.C_below HR1.out HB.out) HC1.out N1.out).mono ?_
  rintro e w5 ⟨v0, v1, P1, Q1, rfl, hd, hb⟩
  refine ⟨_, rfl, ?_⟩
  obtain ⟨Y0, yc0, rfl⟩ := Kd.S_slice hd.2.1
  obtain ⟨Y1, yc1, rfl⟩ := Kd.S_slice hd.2.2
  have HY := Aside0.mk (D_lower hd HB.out.size)
  clear hd
  have HB := Aside0.mk (below_step HB.out hb)
  have BP := Aside0.mk (blk_below BP.out hb)
  have B3 := Aside0.mk (blk_below B3.out hb)
  clear hb hHeld
  refine hK.out _ _ (⟨BP.out, B3.out⟩) (fun hHeld => ?_)
  clear hK K
  refine norm_ (a' := ?_) ?_ ?_
  rotate_left
  · show Act.put _ (some 26) _ = _
    simp only [Act.put, List.setIfInBounds_toArray, List.set_cons_zero, List.set_cons_succ, i64_w, i32_w]
    rfl
  refine one_ (i := 3) (N := some 28) #[true, true, true, true, false, false, false, false, false, false, false, false] rfl rfl (one_of HT_.out (by kernel_rfl)) (by decide) (fun K hK => ?_)
  refine goes_ Try.func62 (by kernel_rfl) rfl #[.agg #[.int .i64 z0, .int .i64 z1, .int .i64 z2, .int .i64 z3]] (by rfl) rfl rfl (by first | rfl | (simp only [List.map_toArray, List.map_cons, List.map_nil]; first | done | rfl)) ?_
  refine (laws_toSuper.calls z0 z1 z2 z3 z0 z1 z2 z3 _ rfl).mono ?_
  rintro e w6 ⟨rfl, hb⟩
  refine ⟨_, rfl, ?_⟩
  have HB := Aside0.mk (below_step HB.out hb)
  have BP := Aside0.mk (blk_below BP.out hb)
  have B3 := Aside0.mk (blk_below B3.out hb)
  have HY := Aside0.mk (IsDisk_below HY.out hb)
  clear hb hHeld
  refine hK.out _ _ (⟨BP.out, B3.out⟩) (fun hHeld => ?_)
  clear hK K
  refine norm_ (a' := ?_) ?_ ?_
  rotate_left
  · show Act.put _ (some 28) _ = _
    simp only [Act.put, List.setIfInBounds_toArray, List.set_cons_zero, List.set_cons_succ, i64_w, i32_w]
    rfl
  refine one_ (i := 4) (N := some 29) #[true, true, true, true, true, false, false, false, false, false, false, false] rfl rfl (one_of HT_.out (by kernel_rfl)) (by decide) (fun K hK => ?_)
  refine goes_ Try.func61 (by kernel_rfl) rfl #[.agg #[.slice Y0 d0.length yc0, .slice Y1 d1.length yc1], .agg #[.int .i64 z0, .int .i64 z1, .int .i64 z2, .int .i64 z3]] (by rfl) rfl rfl (by first | rfl | (simp only [List.map_toArray, List.map_cons, List.map_nil]; first | done | rfl)) ?_
  refine (spec_FreeList.calls k3 Y0 yc0 d0 Y1 yc1 d1 z0 z1 z2 z3 ra rb rc _ (Kd.S_reads' HY.out.2.1).2.2 (Kd.S_reads' HY.out.2.1).2.1 (Kd.S_reads' HY.out.2.2).2.2 (Kd.S_reads' HY.out.2.2).2.1 N2.out).mono ?_
  rintro e w7 ⟨vw0, vw1, rfl, ho1, ho2, hb⟩
  refine ⟨_, rfl, ?_⟩
  have HW0 := Aside0.mk (Kd.R_lower ho1 HB.out.size)
  have HW1 := Aside0.mk (Kd.R_lower ho2 HB.out.size)
  clear ho1 ho2 HY
  have HB := Aside0.mk (below_step HB.out hb)
  have BP := Aside0.mk (blk_below BP.out hb)
  have B3 := Aside0.mk (blk_below B3.out hb)
  clear hb hHeld
  refine hK.out _ _ (⟨BP.out, B3.out⟩) (fun hHeld => ?_)
  clear hK K
  refine norm_ (a' := ?_) ?_ ?_
  rotate_left
  · show Act.put _ (some 29) _ = _
    simp only [Act.put, List.setIfInBounds_toArray, List.set_cons_zero, List.set_cons_succ, i64_w, i32_w]
    rfl
  refine pure_ (i := 5) (N := some 24) (v := ?_) (a' := ?_) #[true, true, true, true, true, true, false, false, false, false, false, false] rfl rfl (any_of HT_.out (by kernel_rfl)) (fun _ _ _ h => h) (Or.inl ⟨by rfl, ?_⟩) ?_ ?_
  rotate_left
  · intro w'
    go_simp
    with_reducible rfl
  rotate_left
  · simp only [Act.put, List.setIfInBounds_toArray, List.set_cons_zero, List.set_cons_succ, i64_w, i32_w]
    rfl
  refine pure_ (i := 6) (N := some 30) (v := ?_) (a' := ?_) #[true, true, true, true, true, true, true, false, false, false, false, false] rfl rfl (any_of HT_.out (by kernel_rfl)) (fun _ _ _ h => h) (Or.inl ⟨by rfl, ?_⟩) ?_ ?_
  rotate_left
  · intro w'
    go_simp
    with_reducible rfl
  rotate_left
  · simp only [Act.put, List.setIfInBounds_toArray, List.set_cons_zero, List.set_cons_succ, i64_w, i32_w]
    rfl
  refine pure_ (i := 7) (N := some 31) (v := ?_) (a' := ?_) #[true, true, true, true, true, true, true, true, false, false, false, false] rfl rfl (any_of HT_.out (by kernel_rfl)) (fun _ _ _ h => h) (Or.inl ⟨by rfl, ?_⟩) ?_ ?_
  rotate_left
  · intro w'
    go_simp
    with_reducible rfl
  rotate_left
  · simp only [Act.put, List.setIfInBounds_toArray, List.set_cons_zero, List.set_cons_succ, i64_w, i32_w]
    rfl
  refine pure_ (i := 8) (N := some 32) (v := ?_) (a' := ?_) #[true, true, true, true, true, true, true, true, true, false, false, false] rfl rfl (any_of HT_.out (by kernel_rfl)) (fun _ _ _ h => h) (Or.inl ⟨by rfl, ?_⟩) ?_ ?_
  rotate_left
  · intro w'
    go_simp
    with_reducible rfl
  rotate_left
  · simp only [Act.put, List.setIfInBounds_toArray, List.set_cons_zero, List.set_cons_succ, i64_w, i32_w]
    rfl
  refine pure_ (i := 9) (N := some 6) (v := ?_) (a' := ?_) #[true, true, true, true, true, true, true, true, true, true, false, false] rfl rfl (any_of HT_.out (by kernel_rfl)) (fun _ _ _ h => h) (Or.inl ⟨by rfl, ?_⟩) ?_ ?_
  rotate_left
  · intro w'
    go_simp
    with_reducible rfl
  rotate_left
  · simp only [Act.put, List.setIfInBounds_toArray, List.set_cons_zero, List.set_cons_succ, i64_w, i32_w]
    rfl
  refine pure_ (i := 10) (N := some 7) (v := ?_) (a' := ?_) #[true, true, true, true, true, true, true, true, true, true, true, false] rfl rfl (any_of HT_.out (by kernel_rfl)) (fun _ _ _ h => h) (Or.inl ⟨by rfl, ?_⟩) ?_ ?_
  rotate_left
  · intro w'
    go_simp
    with_reducible rfl
  rotate_left
  · simp only [Act.put, List.setIfInBounds_toArray, List.set_cons_zero, List.set_cons_succ, i64_w, i32_w]
    rfl
  refine pure_ (i := 11) (N := some 8) (v := ?_) (a' := ?_) #[true, true, true, true, true, true, true, true, true, true, true, true] rfl rfl (any_of HT_.out (by kernel_rfl)) (fun _ _ _ h => h) (Or.inl ⟨by rfl, ?_⟩) ?_ ?_
  rotate_left
  · intro w'
    go_simp
    with_reducible rfl
  rotate_left
  · simp only [Act.put, List.setIfInBounds_toArray, List.set_cons_zero, List.set_cons_succ, i64_w, i32_w]
    rfl
  refine done_ (done_of HT_.out (by kernel_rfl)) ?_
  try clear hHeld
  have cgp0 : w7.cell? ⟨gp, 0, none⟩ = some (.slice A0 l0.length c0) := (blk_cell BP.out 0).trans rfl
  have cgp1 : w7.cell? ⟨gp, 1, none⟩ = some (.slice A1 l1.length c1) := (blk_cell BP.out 1).trans rfl
  go_wp2_with fail
  refine (laws_toDisk.apart k2 A0 c0 l0 A1 c1 l1 d0 d1 _ (Kd.C_below HR0.out HB.out) HC0.out (Kd.C_below HR1.out HB.out) HC1.out N1.out).mono ?_
  rintro e w8 ⟨v0, v1, P2, Q2, rfl, hd, hb⟩
  obtain ⟨X0, xc0, rfl⟩ := Kd.S_slice hd.2.1
  obtain ⟨X1, xc1, rfl⟩ := Kd.S_slice hd.2.2
  have HX := Aside0.mk (D_lower hd HB.out.size)
  clear hd
  have HB := Aside0.mk (below_step HB.out hb)
  have BP := Aside0.mk (blk_below BP.out hb)
  have B3 := Aside0.mk (blk_below B3.out hb)
  have HW0 := Aside0.mk (Kd.R_below HW0.out hb)
  have HW1 := Aside0.mk (Kd.R_below HW1.out hb)
  clear hb
  clear cgp0 cgp1
  go_wp2_with (first | ((with_reducible refine gate_dst (N := 9) rfl ?_); refine box_event ?hg (N := 9) ?hd (cs := #[.slice none 0 0, .slice none 0 0]) (t := 44) ?hr ?_; (case hd => rfl); (case hg => rfl); (case hr => first | (go_simp; done) | (go_simp; rfl)); intro g9 hgr w9 hbox hbel; have B9z := Aside0.mk hbox; have Gg9w : Aside0 (w.heap.size ≤ g9) := ⟨by rw [hgr]; exact HB.out.size⟩; have HB := Aside0.mk (below_step HB.out hbel); have BP := Aside0.mk (blk_below BP.out hbel); have B3 := Aside0.mk (blk_below B3.out hbel); have HW0 := Aside0.mk (Kd.R_below HW0.out hbel); have HW1 := Aside0.mk (Kd.R_below HW1.out hbel); have HX := Aside0.mk (IsDisk_below HX.out hbel); clear hbox hbel hgr) | ((with_reducible refine gate_ (.store 44 (.tmp 9) (.tmp 34)) rfl ?_); refine store_blk rfl rfl 44 (.tmp 9) (.tmp 34) rfl (off := 0) (u := .agg #[.slice X0 d0.length xc0, .slice X1 d1.length xc1]) #[.slice X0 d0.length xc0, .slice X1 d1.length xc1] rfl rfl B9z.out [.slice X0 d0.length xc0, .slice X1 d1.length xc1] rfl (by kernel_rfl) (Nat.le_of_ble_eq_true rfl) rfl rfl ?_; intro w10 hblk hgrw; have B9 := Aside0.mk hblk; have HB := Aside0.mk (HB.out.grown hgrw HB.out.size (by intro q hq; cases hq; exact Gg9w.out)); have BP := Aside0.mk (blk_off BP.out B9z.out (by decide) hgrw); have B3 := Aside0.mk (blk_off B3.out B9z.out (by decide) hgrw); have HW0 := Aside0.mk (R_off HW0.out B9z.out (by decide) hgrw); have HW1 := Aside0.mk (R_off HW1.out B9z.out (by decide) hgrw); have HX := Aside0.mk (D_off HX.out B9z.out (by decide) hgrw); clear hblk hgrw))
  refine start_ (n := 11) (S := fun w' => w'.heap[g9]? = some (.cells #[.slice X0 d0.length xc0, .slice X1 d1.length xc1] 44 (0, 0)) ∧ w'.heap[g3]? = some (.cells #[.int .i64 z0, .int .i64 z1, .int .i64 z2, .int .i64 z3] 90 (0, 0))) (ds := []) #[false, false, false, false, false, false, false, false, false, false, false] (by kernel_rfl) rfl rfl (⟨blk_drew B9.out, blk_drew B3.out⟩) (fun hHeld => ?_); refine with_tabW laws_FnExactFreeList.tab7 laws_FnExactFreeList.bits7 (fun HT_ HW_ => ?_)
  have HB := Aside0.mk (below_drew1 HB.out)
  have BP := Aside0.mk (blk_drew BP.out)
  have B3 := Aside0.mk (blk_drew B3.out)
  have HW0 := Aside0.mk (Kd.R_drew HW0.out)
  have HW1 := Aside0.mk (Kd.R_drew HW1.out)
  have HX := Aside0.mk (D_drew HX.out)
  have B9 := Aside0.mk (blk_drew B9.out)
  refine take_ (i := 0) (N := some 36) (v := ?_) (a' := ?_) #[true, false, false, false, false, false, false, false, false, false, false] rfl rfl (take_ofW HT_.out HW_.out (by kernel_rfl)) (fun _ _ _ h => h) (Or.inl ⟨by rfl, ?_⟩) hHeld ?_ ?_
  rotate_left
  · intro w' s0
    have e0 : w'.cell? ⟨g9, 0, none⟩ = some (.slice X0 d0.length xc0) := (blk_cell s0.1 0).trans rfl
    have e1 : w'.cell? ⟨g9, 1, none⟩ = some (.slice X1 d1.length xc1) := (blk_cell s0.1 1).trans rfl
    clear s0
    go_simp
    with_reducible rfl
  rotate_left
  · simp only [Act.put, List.setIfInBounds_toArray, List.set_cons_zero, List.set_cons_succ, i64_w, i32_w]
    rfl
  refine take_ (i := 1) (N := some 37) (v := ?_) (a' := ?_) #[true, true, false, false, false, false, false, false, false, false, false] rfl rfl (take_ofW HT_.out HW_.out (by kernel_rfl)) (fun _ _ _ h => h) (Or.inl ⟨by rfl, ?_⟩) hHeld ?_ ?_
  rotate_left
  · intro w' s0
    have e0 : w'.cell? ⟨g3, 0, none⟩ = some (.int .i64 z0) := (blk_cell s0.2 0).trans rfl
    have e1 : w'.cell? ⟨g3, 1, none⟩ = some (.int .i64 z1) := (blk_cell s0.2 1).trans rfl
    have e2 : w'.cell? ⟨g3, 2, none⟩ = some (.int .i64 z2) := (blk_cell s0.2 2).trans rfl
    have e3 : w'.cell? ⟨g3, 3, none⟩ = some (.int .i64 z3) := (blk_cell s0.2 3).trans rfl
    clear s0
    go_simp
    with_reducible rfl
  rotate_left
  · simp only [Act.put, List.setIfInBounds_toArray, List.set_cons_zero, List.set_cons_succ, i64_w, i32_w]
    rfl
  refine one_ (i := 2) (N := some 38) #[true, true, true, false, false, false, false, false, false, false, false] rfl rfl (one_of HT_.out (by kernel_rfl)) (by decide) (fun K hK => ?_)
  refine goes_ Try.func62 (by kernel_rfl) rfl #[.agg #[.int .i64 z0, .int .i64 z1, .int .i64 z2, .int .i64 z3]] (by rfl) rfl rfl (by first | rfl | (simp only [List.map_toArray, List.map_cons, List.map_nil]; first | done | rfl)) ?_
  refine (laws_toSuper.calls z0 z1 z2 z3 z0 z1 z2 z3 _ rfl).mono ?_
  rintro e w11 ⟨rfl, hb⟩
  refine ⟨_, rfl, ?_⟩
  have HB := Aside0.mk (below_step HB.out hb)
  have BP := Aside0.mk (blk_below BP.out hb)
  have B3 := Aside0.mk (blk_below B3.out hb)
  have HW0 := Aside0.mk (Kd.R_below HW0.out hb)
  have HW1 := Aside0.mk (Kd.R_below HW1.out hb)
  have HX := Aside0.mk (IsDisk_below HX.out hb)
  have B9 := Aside0.mk (blk_below B9.out hb)
  clear hb hHeld
  refine hK.out _ _ (⟨B9.out, B3.out⟩) (fun hHeld => ?_)
  clear hK K
  refine norm_ (a' := ?_) ?_ ?_
  rotate_left
  · show Act.put _ (some 38) _ = _
    simp only [Act.put, List.setIfInBounds_toArray, List.set_cons_zero, List.set_cons_succ, i64_w, i32_w]
    rfl
  refine one_ (i := 3) (N := some 39) #[true, true, true, true, false, false, false, false, false, false, false] rfl rfl (one_of HT_.out (by kernel_rfl)) (by decide) (fun K hK => ?_)
  refine goes_ Try.func63 (by kernel_rfl) rfl #[.agg #[.slice X0 d0.length xc0, .slice X1 d1.length xc1], .agg #[.int .i64 z0, .int .i64 z1, .int .i64 z2, .int .i64 z3]] (by rfl) rfl rfl (by first | rfl | (simp only [List.map_toArray, List.map_cons, List.map_nil]; first | done | rfl)) ?_
  refine (impl_FreeList.calls k4 X0 xc0 d0 X1 xc1 d1 z0 z1 z2 z3 ra rb rc _ (Kd.S_reads' HX.out.2.1).2.2 (Kd.S_reads' HX.out.2.1).2.1 (Kd.S_reads' HX.out.2.2).2.2 (Kd.S_reads' HX.out.2.2).2.1 NZ.out NW.out N3.out).mono ?_
  rintro e w12 ⟨vg0, vg1, rfl, ho1, ho2, hb⟩
  refine ⟨_, rfl, ?_⟩
  have HG0 := Aside0.mk (Kd.R_lower ho1 HB.out.size)
  have HG1 := Aside0.mk (Kd.R_lower ho2 HB.out.size)
  have HGB : Aside0 ((∀ q, vg0.ownBlock = some q → w11.heap.size ≤ q) ∧ ∀ q, vg1.ownBlock = some q → w11.heap.size ≤ q) := ⟨Kd.R_base ho1, Kd.R_base ho2⟩
  have HWL : Aside0 ((∀ q, vw0.ownBlock = some q → q < w11.heap.size) ∧ ∀ q, vw1.ownBlock = some q → q < w11.heap.size) := ⟨Kd.R_lt HW0.out, Kd.R_lt HW1.out⟩
  clear ho1 ho2
  have HB := Aside0.mk (below_step HB.out hb)
  have BP := Aside0.mk (blk_below BP.out hb)
  have B3 := Aside0.mk (blk_below B3.out hb)
  have HW0 := Aside0.mk (Kd.R_below HW0.out hb)
  have HW1 := Aside0.mk (Kd.R_below HW1.out hb)
  have HX := Aside0.mk (IsDisk_below HX.out hb)
  have B9 := Aside0.mk (blk_below B9.out hb)
  clear hb hHeld
  refine hK.out _ _ (⟨B9.out, B3.out⟩) (fun hHeld => ?_)
  clear hK K
  refine norm_ (a' := ?_) ?_ ?_
  rotate_left
  · show Act.put _ (some 39) _ = _
    simp only [Act.put, List.setIfInBounds_toArray, List.set_cons_zero, List.set_cons_succ, i64_w, i32_w]
    rfl
  refine pure_ (i := 4) (N := some 35) (v := ?_) (a' := ?_) #[true, true, true, true, true, false, false, false, false, false, false] rfl rfl (any_of HT_.out (by kernel_rfl)) (fun _ _ _ h => h) (Or.inl ⟨by rfl, ?_⟩) ?_ ?_
  rotate_left
  · intro w'
    go_simp
    with_reducible rfl
  rotate_left
  · simp only [Act.put, List.setIfInBounds_toArray, List.set_cons_zero, List.set_cons_succ, i64_w, i32_w]
    rfl
  refine pure_ (i := 5) (N := some 40) (v := ?_) (a' := ?_) #[true, true, true, true, true, true, false, false, false, false, false] rfl rfl (any_of HT_.out (by kernel_rfl)) (fun _ _ _ h => h) (Or.inl ⟨by rfl, ?_⟩) ?_ ?_
  rotate_left
  · intro w'
    go_simp
    with_reducible rfl
  rotate_left
  · simp only [Act.put, List.setIfInBounds_toArray, List.set_cons_zero, List.set_cons_succ, i64_w, i32_w]
    rfl
  refine pure_ (i := 6) (N := some 41) (v := ?_) (a' := ?_) #[true, true, true, true, true, true, true, false, false, false, false] rfl rfl (any_of HT_.out (by kernel_rfl)) (fun _ _ _ h => h) (Or.inl ⟨by rfl, ?_⟩) ?_ ?_
  rotate_left
  · intro w'
    go_simp
    with_reducible rfl
  rotate_left
  · simp only [Act.put, List.setIfInBounds_toArray, List.set_cons_zero, List.set_cons_succ, i64_w, i32_w]
    rfl
  refine pure_ (i := 7) (N := some 42) (v := ?_) (a' := ?_) #[true, true, true, true, true, true, true, true, false, false, false] rfl rfl (any_of HT_.out (by kernel_rfl)) (fun _ _ _ h => h) (Or.inl ⟨by rfl, ?_⟩) ?_ ?_
  rotate_left
  · intro w'
    go_simp
    with_reducible rfl
  rotate_left
  · simp only [Act.put, List.setIfInBounds_toArray, List.set_cons_zero, List.set_cons_succ, i64_w, i32_w]
    rfl
  refine pure_ (i := 8) (N := some 10) (v := ?_) (a' := ?_) #[true, true, true, true, true, true, true, true, true, false, false] rfl rfl (any_of HT_.out (by kernel_rfl)) (fun _ _ _ h => h) (Or.inl ⟨by rfl, ?_⟩) ?_ ?_
  rotate_left
  · intro w'
    go_simp
    with_reducible rfl
  rotate_left
  · simp only [Act.put, List.setIfInBounds_toArray, List.set_cons_zero, List.set_cons_succ, i64_w, i32_w]
    rfl
  refine pure_ (i := 9) (N := some 11) (v := ?_) (a' := ?_) #[true, true, true, true, true, true, true, true, true, true, false] rfl rfl (any_of HT_.out (by kernel_rfl)) (fun _ _ _ h => h) (Or.inl ⟨by rfl, ?_⟩) ?_ ?_
  rotate_left
  · intro w'
    go_simp
    with_reducible rfl
  rotate_left
  · simp only [Act.put, List.setIfInBounds_toArray, List.set_cons_zero, List.set_cons_succ, i64_w, i32_w]
    rfl
  refine pure_ (i := 10) (N := some 12) (v := ?_) (a' := ?_) #[true, true, true, true, true, true, true, true, true, true, true] rfl rfl (any_of HT_.out (by kernel_rfl)) (fun _ _ _ h => h) (Or.inl ⟨by rfl, ?_⟩) ?_ ?_
  rotate_left
  · intro w'
    go_simp
    with_reducible rfl
  rotate_left
  · simp only [Act.put, List.setIfInBounds_toArray, List.set_cons_zero, List.set_cons_succ, i64_w, i32_w]
    rfl
  refine done_ (done_of HT_.out (by kernel_rfl)) ?_
  try clear hHeld
  obtain ⟨Aw0, cw0, ew0⟩ := Kd.R_slice HW0.out
  subst ew0
  obtain ⟨Aw1, cw1, ew1⟩ := Kd.R_slice HW1.out
  subst ew1
  obtain ⟨Ag0, cg0, eg0⟩ := Kd.R_slice HG0.out
  subst eg0
  obtain ⟨Ag1, cg1, eg1⟩ := Kd.R_slice HG1.out
  subst eg1
  go_wp2_with fail
  refine (laws_eqIntS.calls k5 Ag0 cg0 ra Aw0 cw0 ra true _ (Kd.R_reads' HG0.out).2.2 (Kd.R_reads' HG0.out).2.1 (Kd.R_reads' HW0.out).2.2 (Kd.R_reads' HW0.out).2.1 NA.out).mono ?_
  rintro e w13 ⟨rfl, hdr⟩
  have hb := hdr.below
  have HB := Aside0.mk (below_step HB.out hb)
  have BP := Aside0.mk (blk_below BP.out hb)
  have B3 := Aside0.mk (blk_below B3.out hb)
  have HW0 := Aside0.mk (Kd.R_below HW0.out hb)
  have HW1 := Aside0.mk (Kd.R_below HW1.out hb)
  have HX := Aside0.mk (IsDisk_below HX.out hb)
  have B9 := Aside0.mk (blk_below B9.out hb)
  have HG0 := Aside0.mk (Kd.R_below HG0.out hb)
  have HG1 := Aside0.mk (Kd.R_below HG1.out hb)
  clear hb hdr
  go_wp2_with fail
  refine (laws_eqIntS.calls k5 Ag1 cg1 rb Aw1 cw1 rb true _ (Kd.R_reads' HG1.out).2.2 (Kd.R_reads' HG1.out).2.1 (Kd.R_reads' HW1.out).2.2 (Kd.R_reads' HW1.out).2.1 NB.out).mono ?_
  rintro e w14 ⟨rfl, hdr⟩
  have hb := hdr.below
  have HB := Aside0.mk (below_step HB.out hb)
  have BP := Aside0.mk (blk_below BP.out hb)
  have B3 := Aside0.mk (blk_below B3.out hb)
  have HW0 := Aside0.mk (Kd.R_below HW0.out hb)
  have HW1 := Aside0.mk (Kd.R_below HW1.out hb)
  have HX := Aside0.mk (IsDisk_below HX.out hb)
  have B9 := Aside0.mk (blk_below B9.out hb)
  have HG0 := Aside0.mk (Kd.R_below HG0.out hb)
  have HG1 := Aside0.mk (Kd.R_below HG1.out hb)
  clear hb hdr
  go_wp2_with fail
  refine start_ (n := 5) (S := fun w' => w'.heap[g9]? = some (.cells #[.slice X0 d0.length xc0, .slice X1 d1.length xc1] 44 (0, 0)) ∧ w'.heap[gp]? = some (.cells #[.slice A0 l0.length c0, .slice A1 l1.length c1] 39 (0, 0))) (ds := []) #[false, false, false, false, false] (by kernel_rfl) rfl rfl (⟨blk_drew B9.out, blk_drew BP.out⟩) (fun hHeld => ?_); refine with_tabW laws_FnExactFreeList.tab10 laws_FnExactFreeList.bits10 (fun HT_ HW_ => ?_)
  have HB := Aside0.mk (below_drew1 HB.out)
  have BP := Aside0.mk (blk_drew BP.out)
  have B3 := Aside0.mk (blk_drew B3.out)
  have HW0 := Aside0.mk (Kd.R_drew HW0.out)
  have HW1 := Aside0.mk (Kd.R_drew HW1.out)
  have HX := Aside0.mk (D_drew HX.out)
  have B9 := Aside0.mk (blk_drew B9.out)
  have HG0 := Aside0.mk (Kd.R_drew HG0.out)
  have HG1 := Aside0.mk (Kd.R_drew HG1.out)
  refine take_ (i := 0) (N := some 58) (v := ?_) (a' := ?_) #[true, false, false, false, false] rfl rfl (take_ofW HT_.out HW_.out (by kernel_rfl)) (fun _ _ _ h => h) (Or.inl ⟨by rfl, ?_⟩) hHeld ?_ ?_
  rotate_left
  · intro w' s0
    have e0 : w'.cell? ⟨g9, 0, none⟩ = some (.slice X0 d0.length xc0) := (blk_cell s0.1 0).trans rfl
    have e1 : w'.cell? ⟨g9, 1, none⟩ = some (.slice X1 d1.length xc1) := (blk_cell s0.1 1).trans rfl
    clear s0
    go_simp
    with_reducible rfl
  rotate_left
  · simp only [Act.put, List.setIfInBounds_toArray, List.set_cons_zero, List.set_cons_succ, i64_w, i32_w]
    rfl
  refine take_ (i := 1) (N := some 59) (v := ?_) (a' := ?_) #[true, true, false, false, false] rfl rfl (take_ofW HT_.out HW_.out (by kernel_rfl)) (fun _ _ _ h => h) (Or.inl ⟨by rfl, ?_⟩) hHeld ?_ ?_
  rotate_left
  · intro w' s0
    have e0 : w'.cell? ⟨gp, 0, none⟩ = some (.slice A0 l0.length c0) := (blk_cell s0.2 0).trans rfl
    have e1 : w'.cell? ⟨gp, 1, none⟩ = some (.slice A1 l1.length c1) := (blk_cell s0.2 1).trans rfl
    clear s0
    go_simp
    with_reducible rfl
  rotate_left
  · simp only [Act.put, List.setIfInBounds_toArray, List.set_cons_zero, List.set_cons_succ, i64_w, i32_w]
    rfl
  refine one_ (i := 2) (N := some 60) #[true, true, true, false, false] rfl rfl (one_of HT_.out (by kernel_rfl)) (by decide) (fun K hK => ?_)
  refine goes_ Try.func26 (by kernel_rfl) rfl #[.agg #[.slice A0 l0.length c0, .slice A1 l1.length c1]] (by rfl) rfl rfl (by first | rfl | (simp only [List.map_toArray, List.map_cons, List.map_nil]; first | done | rfl)) ?_
  refine (laws_toDisk.apart k2 A0 c0 l0 A1 c1 l1 d0 d1 _ (Kd.C_below HR0.out HB.out) HC0.out (Kd.C_below HR1.out HB.out) HC1.out N1.out).mono ?_
  rintro e w15 ⟨v0, v1, P3, Q3, rfl, hd, hb⟩
  refine ⟨_, rfl, ?_⟩
  obtain ⟨Z0, zc0, rfl⟩ := Kd.S_slice hd.2.1
  obtain ⟨Z1, zc1, rfl⟩ := Kd.S_slice hd.2.2
  have HZ := Aside0.mk (D_lower hd HB.out.size)
  clear hd
  have HB := Aside0.mk (below_step HB.out hb)
  have BP := Aside0.mk (blk_below BP.out hb)
  have B3 := Aside0.mk (blk_below B3.out hb)
  have HW0 := Aside0.mk (Kd.R_below HW0.out hb)
  have HW1 := Aside0.mk (Kd.R_below HW1.out hb)
  have HX := Aside0.mk (IsDisk_below HX.out hb)
  have B9 := Aside0.mk (blk_below B9.out hb)
  have HG0 := Aside0.mk (Kd.R_below HG0.out hb)
  have HG1 := Aside0.mk (Kd.R_below HG1.out hb)
  clear hb hHeld
  refine hK.out _ _ (⟨B9.out, BP.out⟩) (fun hHeld => ?_)
  clear hK K
  refine norm_ (a' := ?_) ?_ ?_
  rotate_left
  · show Act.put _ (some 60) _ = _
    simp only [Act.put, List.setIfInBounds_toArray, List.set_cons_zero, List.set_cons_succ, i64_w, i32_w]
    rfl
  refine one_ (i := 3) (N := some 61) #[true, true, true, true, false] rfl rfl (one_of HT_.out (by kernel_rfl)) (by decide) (fun K hK => ?_)
  refine goes_ Try.func28 (by kernel_rfl) rfl #[.agg #[.slice X0 d0.length xc0, .slice X1 d1.length xc1], .agg #[.slice Z0 d0.length zc0, .slice Z1 d1.length zc1]] (by rfl) rfl rfl (by first | rfl | (simp only [List.map_toArray, List.map_cons, List.map_nil]; first | done | rfl)) ?_
  refine (laws_eqDisk.calls k6 X0 xc0 d0 X1 xc1 d1 Z0 zc0 d0 Z1 zc1 d1 true _ (Kd.S_reads' HX.out.2.1).2.2 (Kd.S_reads' HX.out.2.1).2.1 (Kd.S_reads' HX.out.2.2).2.2 (Kd.S_reads' HX.out.2.2).2.1 (Kd.S_reads' HZ.out.2.1).2.2 (Kd.S_reads' HZ.out.2.1).2.1 (Kd.S_reads' HZ.out.2.2).2.2 (Kd.S_reads' HZ.out.2.2).2.1 N5.out).mono ?_
  rintro e w16 ⟨rfl, hb⟩
  refine ⟨_, rfl, ?_⟩
  clear HZ
  have HB := Aside0.mk (below_step HB.out hb)
  have BP := Aside0.mk (blk_below BP.out hb)
  have B3 := Aside0.mk (blk_below B3.out hb)
  have HW0 := Aside0.mk (Kd.R_below HW0.out hb)
  have HW1 := Aside0.mk (Kd.R_below HW1.out hb)
  have HX := Aside0.mk (IsDisk_below HX.out hb)
  have B9 := Aside0.mk (blk_below B9.out hb)
  have HG0 := Aside0.mk (Kd.R_below HG0.out hb)
  have HG1 := Aside0.mk (Kd.R_below HG1.out hb)
  clear hb hHeld
  refine hK.out _ _ (⟨B9.out, BP.out⟩) (fun hHeld => ?_)
  clear hK K
  refine norm_ (a' := ?_) ?_ ?_
  rotate_left
  · show Act.put _ (some 61) _ = _
    simp only [Act.put, List.setIfInBounds_toArray, List.set_cons_zero, List.set_cons_succ, i64_w, i32_w]
    rfl
  refine pure_ (i := 4) (N := some 62) (v := ?_) (a' := ?_) #[true, true, true, true, true] rfl rfl (any_of HT_.out (by kernel_rfl)) (fun _ _ _ h => h) (Or.inl ⟨by rfl, ?_⟩) ?_ ?_
  rotate_left
  · intro w'
    go_simp
    with_reducible rfl
  rotate_left
  · simp only [Act.put, List.setIfInBounds_toArray, List.set_cons_zero, List.set_cons_succ, i64_w, i32_w]
    rfl
  refine done_ (done_of HT_.out (by kernel_rfl)) ?_
  try clear hHeld
  have cg90 : w16.cell? ⟨g9, 0, none⟩ = some (.slice X0 d0.length xc0) := (blk_cell B9.out 0).trans rfl
  have cg91 : w16.cell? ⟨g9, 1, none⟩ = some (.slice X1 d1.length xc1) := (blk_cell B9.out 1).trans rfl
  go_wp2_with fail
  obtain ⟨P4, Q4, hd4, hT4, _⟩ := D_tight HX.out
  refine (laws_markDisk.calls P4 Q4 (.slice X0 d0.length xc0) (.slice X1 d1.length xc1) d0 d1 1 w _ HB.out hd4 (by decide) NS.out).mono ?_
  rintro e w17 ⟨rfl, _, hb, hk⟩
  have BP := Aside0.mk (blk_keptT BP.out hk hT4 (by decide))
  have B3 := Aside0.mk (blk_keptT B3.out hk hT4 (by decide))
  have HW0 := Aside0.mk (R_keptT HW0.out hk hT4 (by decide))
  have HW1 := Aside0.mk (R_keptT HW1.out hk hT4 (by decide))
  have HG0 := Aside0.mk (R_keptT HG0.out hk hT4 (by decide))
  have HG1 := Aside0.mk (R_keptT HG1.out hk hT4 (by decide))
  have HB := Aside0.mk hb
  clear hb hk hd4 hT4 HX B9 cg90 cg91
  go_wp2_with fail
  refine (laws_eqIntS.calls k5 Ag0 cg0 ra Aw0 cw0 ra true _ (Kd.R_reads' HG0.out).2.2 (Kd.R_reads' HG0.out).2.1 (Kd.R_reads' HW0.out).2.2 (Kd.R_reads' HW0.out).2.1 NA.out).mono ?_
  rintro e w18 ⟨rfl, hdr⟩
  have hb := hdr.below
  have HB := Aside0.mk (below_step HB.out hb)
  have BP := Aside0.mk (blk_below BP.out hb)
  have B3 := Aside0.mk (blk_below B3.out hb)
  have HW0 := Aside0.mk (Kd.R_below HW0.out hb)
  have HW1 := Aside0.mk (Kd.R_below HW1.out hb)
  have HG0 := Aside0.mk (Kd.R_below HG0.out hb)
  have HG1 := Aside0.mk (Kd.R_below HG1.out hb)
  clear hb hdr
  go_wp2_with fail
  refine (laws_eqIntS.calls k5 Ag1 cg1 rb Aw1 cw1 rb true _ (Kd.R_reads' HG1.out).2.2 (Kd.R_reads' HG1.out).2.1 (Kd.R_reads' HW1.out).2.2 (Kd.R_reads' HW1.out).2.1 NB.out).mono ?_
  rintro e w19 ⟨rfl, hdr⟩
  have hb := hdr.below
  have HB := Aside0.mk (below_step HB.out hb)
  have BP := Aside0.mk (blk_below BP.out hb)
  have B3 := Aside0.mk (blk_below B3.out hb)
  have HW0 := Aside0.mk (Kd.R_below HW0.out hb)
  have HW1 := Aside0.mk (Kd.R_below HW1.out hb)
  have HG0 := Aside0.mk (Kd.R_below HG0.out hb)
  have HG1 := Aside0.mk (Kd.R_below HG1.out hb)
  clear hb hdr
  go_wp2_with fail
  refine (laws_markIntS.calls k7 (fun q => some q = (Value.slice Ag0 ra.length cg0).ownBlock) (.slice Ag0 ra.length cg0) ra 1 _ _ w _ HB.out (Kd.R_tight rfl HG0.out) NMA.out).mono ?_
  rintro e w20 ⟨rfl, hv, hb, hk⟩
  have hT4 := Ty_own HG0.out
  have BP := Aside0.mk (blk_keptT BP.out hk hT4 (by decide))
  have B3 := Aside0.mk (blk_keptT B3.out hk hT4 (by decide))
  have HG1 := Aside0.mk (Kd.R_kept HG1.out hk (fun q hq e => hq e))
  have HW0 := Aside0.mk (Kd.R_mono (Kd.R_kept (Kd.R_tight rfl HW0.out) hk (fun q hq e => by have := HWL.out.1 q hq.symm; have := HGB.out.1 q e.symm; omega)) (fun q hq => HW0.out.1 q hq.symm))
  have HW1 := Aside0.mk (Kd.R_mono (Kd.R_kept (Kd.R_tight rfl HW1.out) hk (fun q hq e => by have := HWL.out.2 q hq.symm; have := HGB.out.1 q e.symm; omega)) (fun q hq => HW1.out.1 q hq.symm))
  have HM0 := Aside0.mk (Kd.R_mono (Kd.R_tight rfl hv) (ok' := fun q => some q ≠ (Value.slice Ag1 rb.length cg1).ownBlock) (fun q hq => HG0.out.1 q hq.symm))
  have HB := Aside0.mk hb
  clear hb hk hv hT4 HG0
  go_wp2_with fail
  refine (laws_markIntS.calls k7 (fun q => some q = (Value.slice Ag1 rb.length cg1).ownBlock) (.slice Ag1 rb.length cg1) rb (1 + (ra.length : Int)) _ _ w _ HB.out (Kd.R_tight rfl HG1.out) NMB.out).mono ?_
  rintro e w21 ⟨rfl, hv, hb, hk⟩
  have hT4 := Ty_own HG1.out
  have BP := Aside0.mk (blk_keptT BP.out hk hT4 (by decide))
  have B3 := Aside0.mk (blk_keptT B3.out hk hT4 (by decide))
  have HM0 := Aside0.mk (Kd.R_kept HM0.out hk (fun q hq e => hq e))
  have HW0 := Aside0.mk (Kd.R_mono (Kd.R_kept (Kd.R_tight rfl HW0.out) hk (fun q hq e => by have := HWL.out.1 q hq.symm; have := HGB.out.2 q e.symm; omega)) (fun q hq => HW0.out.1 q hq.symm))
  have HW1 := Aside0.mk (Kd.R_mono (Kd.R_kept (Kd.R_tight rfl HW1.out) hk (fun q hq e => by have := HWL.out.2 q hq.symm; have := HGB.out.2 q e.symm; omega)) (fun q hq => HW1.out.1 q hq.symm))
  have HM1 := Aside0.mk hv
  have HB := Aside0.mk hb
  clear hb hk hv hT4 HG1
  go_wp2_with fail
  have hheld := laws_heldIntS.calls k8 Ag0 cg0 (imarks ra.length 1) 1 (1 + (ra.length : Int)) _ (Kd.R_reads' HM0.out).2.2 (by rw [imarks_length]; exact (Kd.R_reads' HM0.out).2.1) NHA.out
  rw [imarks_length] at hheld
  refine hheld.mono ?_
  clear hheld
  rintro e w22 ⟨rfl, hdr⟩
  have hb := hdr.below
  have HB := Aside0.mk (below_step HB.out hb)
  have BP := Aside0.mk (blk_below BP.out hb)
  have B3 := Aside0.mk (blk_below B3.out hb)
  have HW0 := Aside0.mk (Kd.R_below HW0.out hb)
  have HW1 := Aside0.mk (Kd.R_below HW1.out hb)
  have HM0 := Aside0.mk (Kd.R_below HM0.out hb)
  have HM1 := Aside0.mk (Kd.R_below HM1.out hb)
  clear hb hdr
  go_wp2_with fail
  have hheld := laws_heldIntS.calls k8 Ag1 cg1 (imarks rb.length (1 + (ra.length : Int))) (1 + (ra.length : Int)) (1 + (ra.length : Int) + (rb.length : Int)) _ (Kd.R_reads' HM1.out).2.2 (by rw [imarks_length]; exact (Kd.R_reads' HM1.out).2.1) NHB.out
  rw [imarks_length] at hheld
  refine hheld.mono ?_
  clear hheld
  rintro e w23 ⟨rfl, hdr⟩
  have hb := hdr.below
  have HB := Aside0.mk (below_step HB.out hb)
  have BP := Aside0.mk (blk_below BP.out hb)
  have B3 := Aside0.mk (blk_below B3.out hb)
  have HW0 := Aside0.mk (Kd.R_below HW0.out hb)
  have HW1 := Aside0.mk (Kd.R_below HW1.out hb)
  have HM0 := Aside0.mk (Kd.R_below HM0.out hb)
  have HM1 := Aside0.mk (Kd.R_below HM1.out hb)
  clear hb hdr
  have e6 : ((1 + (ra.length : Int) + (rb.length : Int)) != (1 + (ra.length : Int) + (rb.length : Int))) = false := by simp
  go_wp2_with fail
  refine start_ (n := 12) (S := fun w' => w'.heap[gp]? = some (.cells #[.slice A0 l0.length c0, .slice A1 l1.length c1] 39 (0, 0)) ∧ w'.heap[g3]? = some (.cells #[.int .i64 z0, .int .i64 z1, .int .i64 z2, .int .i64 z3] 90 (0, 0))) (ds := []) #[false, false, false, false, false, false, false, false, false, false, false, false] (by kernel_rfl) rfl rfl (⟨blk_drew BP.out, blk_drew B3.out⟩) (fun hHeld => ?_); refine with_tabW laws_FnExactFreeList.tab28 laws_FnExactFreeList.bits28 (fun HT_ HW_ => ?_)
  have HB := Aside0.mk (below_drew1 HB.out)
  have BP := Aside0.mk (blk_drew BP.out)
  have B3 := Aside0.mk (blk_drew B3.out)
  have HW0 := Aside0.mk (Kd.R_drew HW0.out)
  have HW1 := Aside0.mk (Kd.R_drew HW1.out)
  refine take_ (i := 0) (N := some 105) (v := ?_) (a' := ?_) #[true, false, false, false, false, false, false, false, false, false, false, false] rfl rfl (take_ofW HT_.out HW_.out (by kernel_rfl)) (fun _ _ _ h => h) (Or.inl ⟨by rfl, ?_⟩) hHeld ?_ ?_
  rotate_left
  · intro w' s0
    have e0 : w'.cell? ⟨gp, 0, none⟩ = some (.slice A0 l0.length c0) := (blk_cell s0.1 0).trans rfl
    have e1 : w'.cell? ⟨gp, 1, none⟩ = some (.slice A1 l1.length c1) := (blk_cell s0.1 1).trans rfl
    clear s0
    go_simp
    with_reducible rfl
  rotate_left
  · simp only [Act.put, List.setIfInBounds_toArray, List.set_cons_zero, List.set_cons_succ, i64_w, i32_w]
    rfl
  refine take_ (i := 2) (N := some 107) (v := ?_) (a' := ?_) #[true, false, true, false, false, false, false, false, false, false, false, false] rfl rfl (take_ofW HT_.out HW_.out (by kernel_rfl)) (fun _ _ _ h => h) (Or.inl ⟨by rfl, ?_⟩) hHeld ?_ ?_
  rotate_left
  · intro w' s0
    have e0 : w'.cell? ⟨g3, 0, none⟩ = some (.int .i64 z0) := (blk_cell s0.2 0).trans rfl
    have e1 : w'.cell? ⟨g3, 1, none⟩ = some (.int .i64 z1) := (blk_cell s0.2 1).trans rfl
    have e2 : w'.cell? ⟨g3, 2, none⟩ = some (.int .i64 z2) := (blk_cell s0.2 2).trans rfl
    have e3 : w'.cell? ⟨g3, 3, none⟩ = some (.int .i64 z3) := (blk_cell s0.2 3).trans rfl
    clear s0
    go_simp
    with_reducible rfl
  rotate_left
  · simp only [Act.put, List.setIfInBounds_toArray, List.set_cons_zero, List.set_cons_succ, i64_w, i32_w]
    rfl
  refine one_ (i := 1) (N := some 106) #[true, true, true, false, false, false, false, false, false, false, false, false] rfl rfl (one_of HT_.out (by kernel_rfl)) (by decide) (fun K hK => ?_)
  refine goes_ Try.func26 (by kernel_rfl) rfl #[.agg #[.slice A0 l0.length c0, .slice A1 l1.length c1]] (by rfl) rfl rfl (by first | rfl | (simp only [List.map_toArray, List.map_cons, List.map_nil]; first | done | rfl)) ?_
  refine (laws_toDisk.apart k2 A0 c0 l0 A1 c1 l1 d0 d1 _ (Kd.C_below HR0.out HB.out) HC0.out (Kd.C_below HR1.out HB.out) HC1.out N1.out).mono ?_
  rintro e w5 ⟨v0, v1, P1, Q1, rfl, hd, hb⟩
  refine ⟨_, rfl, ?_⟩
  obtain ⟨Y0, yc0, rfl⟩ := Kd.S_slice hd.2.1
  obtain ⟨Y1, yc1, rfl⟩ := Kd.S_slice hd.2.2
  have HY := Aside0.mk (D_lower hd HB.out.size)
  clear hd
  have HB := Aside0.mk (below_step HB.out hb)
  have BP := Aside0.mk (blk_below BP.out hb)
  have B3 := Aside0.mk (blk_below B3.out hb)
  have HW0 := Aside0.mk (Kd.R_below HW0.out hb)
  have HW1 := Aside0.mk (Kd.R_below HW1.out hb)
  clear hb hHeld
  refine hK.out _ _ (⟨BP.out, B3.out⟩) (fun hHeld => ?_)
  clear hK K
  refine norm_ (a' := ?_) ?_ ?_
  rotate_left
  · show Act.put _ (some 106) _ = _
    simp only [Act.put, List.setIfInBounds_toArray, List.set_cons_zero, List.set_cons_succ, i64_w, i32_w]
    rfl
  refine one_ (i := 3) (N := some 108) #[true, true, true, true, false, false, false, false, false, false, false, false] rfl rfl (one_of HT_.out (by kernel_rfl)) (by decide) (fun K hK => ?_)
  refine goes_ Try.func62 (by kernel_rfl) rfl #[.agg #[.int .i64 z0, .int .i64 z1, .int .i64 z2, .int .i64 z3]] (by rfl) rfl rfl (by first | rfl | (simp only [List.map_toArray, List.map_cons, List.map_nil]; first | done | rfl)) ?_
  refine (laws_toSuper.calls z0 z1 z2 z3 z0 z1 z2 z3 _ rfl).mono ?_
  rintro e w6 ⟨rfl, hb⟩
  refine ⟨_, rfl, ?_⟩
  have HB := Aside0.mk (below_step HB.out hb)
  have BP := Aside0.mk (blk_below BP.out hb)
  have B3 := Aside0.mk (blk_below B3.out hb)
  have HW0 := Aside0.mk (Kd.R_below HW0.out hb)
  have HW1 := Aside0.mk (Kd.R_below HW1.out hb)
  have HY := Aside0.mk (IsDisk_below HY.out hb)
  clear hb hHeld
  refine hK.out _ _ (⟨BP.out, B3.out⟩) (fun hHeld => ?_)
  clear hK K
  refine norm_ (a' := ?_) ?_ ?_
  rotate_left
  · show Act.put _ (some 108) _ = _
    simp only [Act.put, List.setIfInBounds_toArray, List.set_cons_zero, List.set_cons_succ, i64_w, i32_w]
    rfl
  refine one_ (i := 4) (N := some 109) #[true, true, true, true, true, false, false, false, false, false, false, false] rfl rfl (one_of HT_.out (by kernel_rfl)) (by decide) (fun K hK => ?_)
  refine goes_ Try.func63 (by kernel_rfl) rfl #[.agg #[.slice Y0 d0.length yc0, .slice Y1 d1.length yc1], .agg #[.int .i64 z0, .int .i64 z1, .int .i64 z2, .int .i64 z3]] (by rfl) rfl rfl (by first | rfl | (simp only [List.map_toArray, List.map_cons, List.map_nil]; first | done | rfl)) ?_
  refine (impl_FreeList.calls k4 Y0 yc0 d0 Y1 yc1 d1 z0 z1 z2 z3 ra rb rc _ (Kd.S_reads' HY.out.2.1).2.2 (Kd.S_reads' HY.out.2.1).2.1 (Kd.S_reads' HY.out.2.2).2.2 (Kd.S_reads' HY.out.2.2).2.1 NZ.out NW.out N3.out).mono ?_
  rintro e w7 ⟨vg0, vg1, rfl, ho1, ho2, hb⟩
  refine ⟨_, rfl, ?_⟩
  have HG0 := Aside0.mk (Kd.R_lower ho1 HB.out.size)
  have HG1 := Aside0.mk (Kd.R_lower ho2 HB.out.size)
  clear ho1 ho2 HY
  have HB := Aside0.mk (below_step HB.out hb)
  have BP := Aside0.mk (blk_below BP.out hb)
  have B3 := Aside0.mk (blk_below B3.out hb)
  have HW0 := Aside0.mk (Kd.R_below HW0.out hb)
  have HW1 := Aside0.mk (Kd.R_below HW1.out hb)
  clear hb hHeld
  refine hK.out _ _ (⟨BP.out, B3.out⟩) (fun hHeld => ?_)
  clear hK K
  refine norm_ (a' := ?_) ?_ ?_
  rotate_left
  · show Act.put _ (some 109) _ = _
    simp only [Act.put, List.setIfInBounds_toArray, List.set_cons_zero, List.set_cons_succ, i64_w, i32_w]
    rfl
  refine pure_ (i := 5) (N := some 104) (v := ?_) (a' := ?_) #[true, true, true, true, true, true, false, false, false, false, false, false] rfl rfl (any_of HT_.out (by kernel_rfl)) (fun _ _ _ h => h) (Or.inl ⟨by rfl, ?_⟩) ?_ ?_
  rotate_left
  · intro w'
    go_simp
    with_reducible rfl
  rotate_left
  · simp only [Act.put, List.setIfInBounds_toArray, List.set_cons_zero, List.set_cons_succ, i64_w, i32_w]
    rfl
  refine pure_ (i := 6) (N := some 110) (v := ?_) (a' := ?_) #[true, true, true, true, true, true, true, false, false, false, false, false] rfl rfl (any_of HT_.out (by kernel_rfl)) (fun _ _ _ h => h) (Or.inl ⟨by rfl, ?_⟩) ?_ ?_
  rotate_left
  · intro w'
    go_simp
    with_reducible rfl
  rotate_left
  · simp only [Act.put, List.setIfInBounds_toArray, List.set_cons_zero, List.set_cons_succ, i64_w, i32_w]
    rfl
  refine pure_ (i := 7) (N := some 111) (v := ?_) (a' := ?_) #[true, true, true, true, true, true, true, true, false, false, false, false] rfl rfl (any_of HT_.out (by kernel_rfl)) (fun _ _ _ h => h) (Or.inl ⟨by rfl, ?_⟩) ?_ ?_
  rotate_left
  · intro w'
    go_simp
    with_reducible rfl
  rotate_left
  · simp only [Act.put, List.setIfInBounds_toArray, List.set_cons_zero, List.set_cons_succ, i64_w, i32_w]
    rfl
  refine pure_ (i := 8) (N := some 112) (v := ?_) (a' := ?_) #[true, true, true, true, true, true, true, true, true, false, false, false] rfl rfl (any_of HT_.out (by kernel_rfl)) (fun _ _ _ h => h) (Or.inl ⟨by rfl, ?_⟩) ?_ ?_
  rotate_left
  · intro w'
    go_simp
    with_reducible rfl
  rotate_left
  · simp only [Act.put, List.setIfInBounds_toArray, List.set_cons_zero, List.set_cons_succ, i64_w, i32_w]
    rfl
  refine pure_ (i := 9) (N := some 16) (v := ?_) (a' := ?_) #[true, true, true, true, true, true, true, true, true, true, false, false] rfl rfl (any_of HT_.out (by kernel_rfl)) (fun _ _ _ h => h) (Or.inl ⟨by rfl, ?_⟩) ?_ ?_
  rotate_left
  · intro w'
    go_simp
    with_reducible rfl
  rotate_left
  · simp only [Act.put, List.setIfInBounds_toArray, List.set_cons_zero, List.set_cons_succ, i64_w, i32_w]
    rfl
  refine pure_ (i := 10) (N := some 17) (v := ?_) (a' := ?_) #[true, true, true, true, true, true, true, true, true, true, true, false] rfl rfl (any_of HT_.out (by kernel_rfl)) (fun _ _ _ h => h) (Or.inl ⟨by rfl, ?_⟩) ?_ ?_
  rotate_left
  · intro w'
    go_simp
    with_reducible rfl
  rotate_left
  · simp only [Act.put, List.setIfInBounds_toArray, List.set_cons_zero, List.set_cons_succ, i64_w, i32_w]
    rfl
  refine pure_ (i := 11) (N := some 18) (v := ?_) (a' := ?_) #[true, true, true, true, true, true, true, true, true, true, true, true] rfl rfl (any_of HT_.out (by kernel_rfl)) (fun _ _ _ h => h) (Or.inl ⟨by rfl, ?_⟩) ?_ ?_
  rotate_left
  · intro w'
    go_simp
    with_reducible rfl
  rotate_left
  · simp only [Act.put, List.setIfInBounds_toArray, List.set_cons_zero, List.set_cons_succ, i64_w, i32_w]
    rfl
  refine done_ (done_of HT_.out (by kernel_rfl)) ?_
  try clear hHeld
  obtain ⟨Ag0, cg0, eg0⟩ := Kd.R_slice HG0.out
  subst eg0
  obtain ⟨Ag1, cg1, eg1⟩ := Kd.R_slice HG1.out
  subst eg1
  go_wp2_with fail
  refine (laws_eqIntS.calls k5 Ag0 cg0 ra Aw0 cw0 ra true _ (Kd.R_reads' HG0.out).2.2 (Kd.R_reads' HG0.out).2.1 (Kd.R_reads' HW0.out).2.2 (Kd.R_reads' HW0.out).2.1 NA.out).mono ?_
  rintro e w24 ⟨rfl, hdr⟩
  have hb := hdr.below
  have HB := Aside0.mk (below_step HB.out hb)
  have BP := Aside0.mk (blk_below BP.out hb)
  have B3 := Aside0.mk (blk_below B3.out hb)
  have HW0 := Aside0.mk (Kd.R_below HW0.out hb)
  have HW1 := Aside0.mk (Kd.R_below HW1.out hb)
  have HG0 := Aside0.mk (Kd.R_below HG0.out hb)
  have HG1 := Aside0.mk (Kd.R_below HG1.out hb)
  clear hb hdr
  go_wp2_with fail
  refine (laws_eqIntS.calls k5 Ag1 cg1 rb Aw1 cw1 rb true _ (Kd.R_reads' HG1.out).2.2 (Kd.R_reads' HG1.out).2.1 (Kd.R_reads' HW1.out).2.2 (Kd.R_reads' HW1.out).2.1 NB.out).mono ?_
  rintro e w25 ⟨rfl, hdr⟩
  have hb := hdr.below
  have HB := Aside0.mk (below_step HB.out hb)
  have BP := Aside0.mk (blk_below BP.out hb)
  have B3 := Aside0.mk (blk_below B3.out hb)
  have HW0 := Aside0.mk (Kd.R_below HW0.out hb)
  have HW1 := Aside0.mk (Kd.R_below HW1.out hb)
  have HG0 := Aside0.mk (Kd.R_below HG0.out hb)
  have HG1 := Aside0.mk (Kd.R_below HG1.out hb)
  clear hb hdr
  go_wp2_with fail
  go_ret
  exact ⟨rfl, HB.out⟩
end Go.Proofs.Ytlopmffdebhpfaa.G

/-! ## Lib2 -/
namespace Go.Proofs.Ytlopmffdebhpfaa.G
open Go.RowKit Go.Proofs.YtlopmffdebhpfaaW.PrintWords Go.Proofs.YtlopmffdebhpfaaW.PrintLast Go.Proofs.YtlopmffdebhpfaaW.PrintMore
set_option linter.unusedVariables false
set_option linter.unusedSimpArgs false
end Go.Proofs.Ytlopmffdebhpfaa.G

/-! ## RSec -/
namespace Go.Proofs.Ytlopmffdebhpfaa.G
open Go.RowKit Go.Proofs.YtlopmffdebhpfaaW.PrintWords Go.Proofs.YtlopmffdebhpfaaW.PrintLast Go.Proofs.YtlopmffdebhpfaaW.PrintMore
set_option linter.unusedVariables false
set_option linter.unusedSimpArgs false
end Go.Proofs.Ytlopmffdebhpfaa.G

/-! ## G25 -/
namespace Go.Proofs.Ytlopmffdebhpfaa.G
open Go.RowKit Go.Proofs.YtlopmffdebhpfaaW.PrintWords Go.Proofs.YtlopmffdebhpfaaW.PrintLast Go.Proofs.YtlopmffdebhpfaaW.PrintMore
attribute [local go_sem] max2_int min2_int max_two min_two max_three min_three max_four min_four
set_option linter.unusedVariables false
set_option linter.unusedSimpArgs false

/-! ### spec_ReadSector: function 25 -/
end Go.Proofs.Ytlopmffdebhpfaa.G

/-! ## Law5 -/
namespace Go.Proofs.Ytlopmffdebhpfaa.G
open Go.RowKit Go.Proofs.YtlopmffdebhpfaaW.PrintWords Go.Proofs.YtlopmffdebhpfaaW.PrintLast Go.Proofs.YtlopmffdebhpfaaW.PrintMore
open Go.Proofs.Ytlopmffdebhpfaa.Pure (marks marks_length mark_l0)
set_option linter.unusedVariables false
set_option linter.unusedSimpArgs false

end Go.Proofs.Ytlopmffdebhpfaa.G

/-! ## SV -/
namespace Go.Proofs.Ytlopmffdebhpfaa.G
open Go.RowKit Go.Proofs.YtlopmffdebhpfaaW.PrintWords Go.Proofs.YtlopmffdebhpfaaW.PrintLast Go.Proofs.YtlopmffdebhpfaaW.PrintMore
set_option linter.unusedVariables false
set_option linter.unusedSimpArgs false

def okPlace (used id : Int) : Bool := decide (id = 0 ∨ (2 ≤ id ∧ id < used))
def okSuper (gen root used free : Int) : Bool := decide (1 ≤ gen ∧ gen ≤ 1000000000000 ∧ 2 ≤ used ∧ used ≤ 1024) && (okPlace used root && okPlace used free)
end Go.Proofs.Ytlopmffdebhpfaa.G

/-! ## Best -/
namespace Go.Proofs.Ytlopmffdebhpfaa.G
open Go.RowKit Go.Proofs.YtlopmffdebhpfaaW.PrintWords Go.Proofs.YtlopmffdebhpfaaW.PrintLast Go.Proofs.YtlopmffdebhpfaaW.PrintMore
set_option linter.unusedVariables false
set_option linter.unusedSimpArgs false

section
variable {P : Program} {ops : Array Oper} {o : Oper} {a : Act} {Q : Exit → Act → World → Prop}
end
end Go.Proofs.Ytlopmffdebhpfaa.G

/-! ## G148 -/
namespace Go.Proofs.Ytlopmffdebhpfaa.G
open Go.RowKit Go.Proofs.YtlopmffdebhpfaaW.PrintWords Go.Proofs.YtlopmffdebhpfaaW.PrintLast Go.Proofs.YtlopmffdebhpfaaW.PrintMore
attribute [local go_sem] max2_int min2_int max_two min_two max_three min_three max_four min_four
set_option linter.unusedVariables false
set_option linter.unusedSimpArgs false

/-! ### spec_l2SuperOk: function 148 -/
end Go.Proofs.Ytlopmffdebhpfaa.G

/-! ## SuAt -/
namespace Go.Proofs.Ytlopmffdebhpfaa.G
open Go.RowKit Go.Proofs.YtlopmffdebhpfaaW.PrintWords Go.Proofs.YtlopmffdebhpfaaW.PrintLast Go.Proofs.YtlopmffdebhpfaaW.PrintMore
set_option linter.unusedVariables false
set_option linter.unusedSimpArgs false

end Go.Proofs.Ytlopmffdebhpfaa.G

/-! ## BSp -/
namespace Go.Proofs.Ytlopmffdebhpfaa.G
open Go.RowKit Go.Proofs.YtlopmffdebhpfaaW.PrintWords Go.Proofs.YtlopmffdebhpfaaW.PrintLast Go.Proofs.YtlopmffdebhpfaaW.PrintMore
set_option linter.unusedVariables false
set_option linter.unusedSimpArgs false

end Go.Proofs.Ytlopmffdebhpfaa.G

/-! ## BSup -/
namespace Go.Proofs.Ytlopmffdebhpfaa.G
open Go.RowKit Go.Proofs.YtlopmffdebhpfaaW.PrintWords Go.Proofs.YtlopmffdebhpfaaW.PrintLast Go.Proofs.YtlopmffdebhpfaaW.PrintMore
set_option linter.unusedVariables false
set_option linter.unusedSimpArgs false

end Go.Proofs.Ytlopmffdebhpfaa.G

/-! ## G54 -/
namespace Go.Proofs.Ytlopmffdebhpfaa.G
open Go.RowKit Go.Proofs.YtlopmffdebhpfaaW.PrintWords Go.Proofs.YtlopmffdebhpfaaW.PrintLast Go.Proofs.YtlopmffdebhpfaaW.PrintMore
attribute [local go_sem] max2_int min2_int max_two min_two max_three min_three max_four min_four
set_option linter.unusedVariables false
set_option linter.unusedSimpArgs false

/-! ### laws_eqSuper: function 54 -/
end Go.Proofs.Ytlopmffdebhpfaa.G

/-! ## Law11 -/
namespace Go.Proofs.Ytlopmffdebhpfaa.G
open Go.RowKit Go.Proofs.YtlopmffdebhpfaaW.PrintWords Go.Proofs.YtlopmffdebhpfaaW.PrintLast Go.Proofs.YtlopmffdebhpfaaW.PrintMore
set_option linter.unusedVariables false
set_option linter.unusedSimpArgs false

end Go.Proofs.Ytlopmffdebhpfaa.G

/-! ## Num -/
namespace Go.Proofs.Ytlopmffdebhpfaa.Pure
open Go.RowKit Go.Proofs.Ytlopmffdebhpfaa.G Go.Proofs.YtlopmffdebhpfaaW.PrintWords Go.Proofs.YtlopmffdebhpfaaW.PrintLast Go.Proofs.YtlopmffdebhpfaaW.PrintMore

def leV : List Int → Int
  | [] => 0
  | b :: r => b + 256 * leV r
theorem leV_snoc : ∀ (l : List Int) (x : Int), leV (l ++ [x]) = leV l + x * 256 ^ l.length
  | [], x => by simp [leV]
  | b :: r, x => by
    simp only [List.cons_append, leV, leV_snoc r x, List.length_cons, Int.pow_succ]
    rw [Int.mul_add, Int.add_assoc, Int.mul_left_comm 256, Int.mul_comm 256 (256 ^ r.length)]
theorem leV_range : ∀ (l : List Int), By l → 0 ≤ leV l ∧ leV l < 256 ^ l.length
  | [], _ => by simp [leV]
  | b :: r, h => by
    have h0 := h b List.mem_cons_self
    have ih := leV_range r (fun x hx => h x (List.mem_cons_of_mem _ hx))
    simp only [leV, List.length_cons, Int.pow_succ]
    omega
theorem pow_le8 {n : Nat} (h : n ≤ 7) : (256 : Int) ^ n ≤ 72057594037927936 := by
  rcases n with _ | _ | _ | _ | _ | _ | _ | _ | n <;> first | decide | omega
theorem low_l0 (k : Nat) (l : List Int) (hb : By l) (hl : l.length ≤ 7) : ∀ (n : Nat), n ≤ l.length → spec_l2Low.l0 (k + n + 1) l (leV (l.drop n)) ((n : Int) - 1) = some (leV l)
  | 0, _ => by
    unfold spec_l2Low.l0
    rw [if_neg (by omega)]
    rfl
  | n + 1, h => by
    have hb' : By (l.drop (n + 1)) := hb.drop _
    have hr := leV_range _ hb'
    have hp := pow_le8 (n := (l.drop (n + 1)).length) (by rw [List.length_drop]; omega)
    have hq : (256 : Int) ^ (l.drop (n + 1)).length * 256 ≤ 72057594037927936 := by
      rw [← Int.pow_succ]; exact pow_le8 (by rw [List.length_drop]; omega)
    have hx := By_rd hb (n : Int)
    have e : l.drop n = rd l (n : Int) :: l.drop (n + 1) := by
      rw [List.drop_eq_getElem_cons (by omega)]
      congr 1
      unfold rd
      rw [Int.toNat_natCast, List.getD_eq_getElem?_getD, List.getElem?_eq_getElem (by omega)]
      rfl
    unfold spec_l2Low.l0
    rw [show ((n + 1 : Nat) : Int) - 1 = (n : Int) by omega, if_pos (by omega), if_pos (by omega), if_pos (by omega)]
    rw [w64 (n := leV (l.drop (n + 1)) * 256) (by omega) (by omega), w64 (n := rd l (n : Int)) (by omega) (by omega), w64 (n := (n : Int) - 1) (by omega) (by omega), w64 (by omega) (by omega)]
    have ih := low_l0 k l hb hl n (by omega)
    rw [e, leV] at ih
    rw [show leV (l.drop (n + 1)) * 256 + rd l (n : Int) = rd l (n : Int) + 256 * leV (l.drop (n + 1)) by omega]
    exact ih
theorem lowV {l : List Int} (hb : By l) (hl : l.length ≤ 7) : Cv (fun k => spec_l2Low.f k l) (leV l) :=
  Cv.from (m := l.length + 1) (fun k => by
    have h := low_l0 k l hb hl l.length (Nat.le_refl _)
    rw [List.drop_length, ← Nat.add_assoc] at *
    unfold spec_l2Low.f
    rw [w64 (by omega) (by omega)]
    exact h)
theorem or_end {a b : Nat} (ha2 : a < 72057594037927936) (hB : b < 18446744073709551616) (hor : a ||| b = a + b) : Go.bits .or .i64 (a : Int) (IntKind.i64.wrap (b : Int)) = wrap64 ((a : Int) + (b : Int)) := by
  have e64 : (((2 ^ 64 : Nat)) : Int) = 18446744073709551616 := by decide
  have ht : (BitVec.ofInt 64 (IntKind.i64.wrap (b : Int))).toNat = b := by
    rw [BitVec.toNat_ofInt, e64, IntKind.wrap_i64]
    omega
  have ha : (BitVec.ofInt 64 (a : Int)).toNat = a := by
    rw [BitVec.toNat_ofInt, e64]
    omega
  have key : Go.bits .or .i64 (a : Int) (IntKind.i64.wrap (b : Int)) = IntKind.i64.wrap (((BitVec.ofInt 64 (a : Int) ||| BitVec.ofInt 64 (IntKind.i64.wrap (b : Int))).toNat : Nat) : Int) := rfl
  rw [key, BitVec.toNat_or, ht, ha, hor, IntKind.wrap_i64]
  unfold wrap64
  omega
theorem or_step {a : Int} {x : Int} {i : Nat} (hi : i ≤ 7) (h0 : 0 ≤ a) (h1 : a < 256 ^ i) (hx : 0 ≤ x ∧ x < 256) : Go.bits .or .i64 a (shl .i64 (wrap64 x) (8 * (i : Int))) = wrap64 (a + x * 256 ^ i) := by
  obtain ⟨a, rfl⟩ := Int.eq_ofNat_of_zero_le h0
  obtain ⟨x, rfl⟩ := Int.eq_ofNat_of_zero_le hx.1
  have hpw : (256 : Nat) ^ i = 2 ^ (8 * i) := by rw [Nat.pow_mul]
  have hcast : ((256 ^ i : Nat) : Int) = (256 : Int) ^ i := Int.natCast_pow 256 i
  have h1 : a < 2 ^ (8 * i) := by rw [← hpw]; rw [← hcast] at h1; exact Int.ofNat_lt.1 h1
  have hx : x < 256 := by omega
  have hpi : 2 ^ (8 * i) ≤ 72057594037927936 := Nat.le_trans (Nat.pow_le_pow_right (n := 2) (j := 56) (by decide) (by omega)) (by decide)
  have e0 : ((x : Int) * 256 ^ i) = ((x * 2 ^ (8 * i) : Nat) : Int) := by rw [← hpw, Int.natCast_mul, hcast]
  have hB : x * 2 ^ (8 * i) < 18446744073709551616 := by
    have := Nat.mul_le_mul (show x ≤ 255 by omega) hpi
    omega
  have e1 : shl .i64 (wrap64 (x : Int)) (8 * (i : Int)) = IntKind.i64.wrap ((x * 2 ^ (8 * i) : Nat) : Int) := by
    unfold shl
    rw [w64 (n := (x : Int)) (by omega) (by omega), show (8 * (i : Int)).toNat = 8 * i by omega, show min (8 * i) IntKind.i64.bits = 8 * i from Nat.min_eq_left (by show 8 * i ≤ 64; omega)]
    rw [show ((2 : Int) ^ (8 * i)) = ((2 ^ (8 * i) : Nat) : Int) from (Int.natCast_pow 2 (8 * i)).symm, Int.natCast_mul]
  rw [e1, e0]
  have hor : a ||| (x * 2 ^ (8 * i)) = a + x * 2 ^ (8 * i) := by
    have h := Nat.two_pow_add_eq_or_of_lt (i := 8 * i) (b := a) h1 x
    rw [Nat.or_comm, Nat.mul_comm x, ← h]
    omega
  generalize x * 2 ^ (8 * i) = b at hB hor
  have ha2 : a < 72057594037927936 := by omega
  clear e1 e0 hpi h1 hcast hpw
  exact or_end ha2 hB hor
theorem num_l0 (k : Nat) (n : Nat) (hn : n ≤ 8) : ∀ (r pre : List Int), By pre → By r → pre.length + r.length = n → impl_numberAt.l0 (k + r.length + 1) (wrap64 (leV pre)) (pre ++ r) (n : Int) (pre.length : Int) = some (wrap64 (leV (pre ++ r)))
  | [], pre, hp, hr, h => by
    unfold impl_numberAt.l0
    rw [List.append_nil, if_neg (by simp at h; omega)]
  | x :: r, pre, hp, hr, h => by
    simp only [List.length_cons] at h
    have hx := hr x List.mem_cons_self
    have hv := leV_range pre hp
    have h8 := pow_le8 (n := pre.length) (by omega)
    rw [show k + (x :: r).length + 1 = (k + r.length + 1) + 1 by simp only [List.length_cons]; omega]
    conv => lhs; unfold impl_numberAt.l0
    rw [if_pos (by omega), if_pos (by omega), if_pos (by simp; omega), w64 (n := 8 * (pre.length : Int)) (by omega) (by omega), if_pos (by omega), rd_mid]
    rw [w64 (n := leV pre) (by omega) (by omega), or_step (by omega) hv.1 hv.2 hx, ← leV_snoc, w64 (n := (pre.length : Int) + 1) (by omega) (by omega)]
    have ih := num_l0 k n hn r (pre ++ [x]) (hp.append (By.cons hx By.nil)) (fun y hy => hr y (List.mem_cons_of_mem _ hy)) (by simp; omega)
    rw [List.append_assoc, List.singleton_append, show (((pre ++ [x]).length : Nat) : Int) = (pre.length : Int) + 1 by simp] at ih
    exact ih
theorem numV {l : List Int} (hb : By l) (hl : l.length ≤ 8) : Cv (fun k => impl_numberAt.f k l) (wrap64 (leV l)) :=
  Cv.from (m := l.length + 1) (fun k => by
    have h := num_l0 k l.length hl l [] By.nil hb (by simp)
    rw [show wrap64 (leV []) = 0 from by unfold wrap64 leV; decide] at h
    rw [← Nat.add_assoc]
    unfold impl_numberAt.f
    exact h)
theorem numV4 {l : List Int} (hb : By l) (hl : l.length ≤ 7) : Cv (fun k => impl_numberAt.f k l) (leV l) := by
  have h := numV hb (by omega)
  have hv := leV_range l hb
  have h8 := pow_le8 hl
  rw [w64 (by omega) (by omega)] at h
  exact h
end Go.Proofs.Ytlopmffdebhpfaa.Pure

/-! ## G50 -/
namespace Go.Proofs.Ytlopmffdebhpfaa.G
open Go.RowKit Go.Proofs.YtlopmffdebhpfaaW.PrintWords Go.Proofs.YtlopmffdebhpfaaW.PrintLast Go.Proofs.YtlopmffdebhpfaaW.PrintMore
attribute [local go_sem] max2_int min2_int max_two min_two max_three min_three max_four min_four
set_option linter.unusedVariables false
set_option linter.unusedSimpArgs false

/-! ### spec_ReadPage: function 50 -/
end Go.Proofs.Ytlopmffdebhpfaa.G

/-! ## Law10 -/
namespace Go.Proofs.Ytlopmffdebhpfaa.G
open Go.RowKit Go.Proofs.YtlopmffdebhpfaaW.PrintWords Go.Proofs.YtlopmffdebhpfaaW.PrintLast Go.Proofs.YtlopmffdebhpfaaW.PrintMore
open Go.Proofs.Ytlopmffdebhpfaa.Pure (marks marks_length mark_l0)
set_option linter.unusedVariables false
set_option linter.unusedSimpArgs false

end Go.Proofs.Ytlopmffdebhpfaa.G

/-! ## DiskP -/
namespace Go.Proofs.Ytlopmffdebhpfaa.Pure
open Go.RowKit Go.Proofs.Ytlopmffdebhpfaa.G Go.Proofs.YtlopmffdebhpfaaW.PrintWords Go.Proofs.YtlopmffdebhpfaaW.PrintLast Go.Proofs.YtlopmffdebhpfaaW.PrintMore

theorem Cv.step {α : Type} {f g : Nat → Option α} {v : α} (hs : ∀ k, g (k + 1) = f k) (h : Cv f v) : Cv g v := Cv.succ h hs
theorem getD_mid {α : Type} (pre r : List α) (x z : α) : (pre ++ x :: r).getD ((pre.length : Int)).toNat z = x := by
  rw [Int.toNat_natCast, List.getD_eq_getElem?_getD, List.getElem?_append_right (Nat.le_refl _), Nat.sub_self]
  rfl
theorem mid_len {α : Type} (pre r : List α) (x : α) : ((pre ++ x :: r).length : Int) = pre.length + r.length + 1 := by simp; omega
theorem snoc_len {α : Type} (pre : List α) (x : α) : (((pre ++ [x]).length : Nat) : Int) = (pre.length : Int) + 1 := by simp
theorem mid_snoc {α : Type} (pre r : List α) (x : α) : pre ++ x :: r = (pre ++ [x]) ++ r := by simp
theorem set_mid {α : Type} (pre r : List α) (x y : α) : (pre ++ x :: r).set ((pre.length : Int)).toNat y = (pre ++ [y]) ++ r := by
  rw [Int.toNat_natCast, List.set_append_right _ _ (Nat.le_refl _), Nat.sub_self, List.set_cons_zero, List.append_assoc, List.singleton_append]
/-- A pending write, as the other package's type. -/
def cv (q : S184) : S185 := ⟨q.f0, q.f1⟩
theorem toSS_l0 : ∀ (r pre : List (List Int)), (∀ l ∈ r, l.length ≤ 281474976710656) → (pre ++ r).length ≤ 11728124029610 →
    Cv (fun k => laws_toByteSS.l0 k (pre ++ r) (pre ++ List.replicate r.length []) (pre.length : Int)) (pre ++ r)
  | [], pre, h, hm => by
    refine Cv.step (fun k => laws_toByteSS.l0.eq_2 _ _ _ k) (Cv.neg (by simp) (Cv.of ?_))
    simp
  | x :: r, pre, h, hm => by
    have h1 := mid_len pre r x
    have h2 : ((pre ++ List.replicate (x :: r).length ([] : List Int)).length : Int) = pre.length + r.length + 1 := by simp; omega
    refine Cv.step (fun k => laws_toByteSS.l0.eq_2 _ _ _ k) (Cv.pos (by omega) (Cv.pos (by omega) ?_))
    rw [show rd_L2 (pre ++ x :: r) (pre.length : Int) = x from getD_mid _ _ _ _]
    refine Cv.bind (toB (h x List.mem_cons_self)) (Cv.pos (by omega) ?_)
    rw [w64 (by omega) (by omega), List.length_cons, List.replicate_succ, set_mid, mid_snoc]
    have ih := toSS_l0 r (pre ++ [x]) (fun l hl => h l (List.mem_cons_of_mem _ hl)) (by simpa using hm)
    rw [snoc_len] at ih
    exact ih
theorem toSS {ls : List (List Int)} (h : ∀ l ∈ ls, l.length ≤ 281474976710656) (hm : ls.length ≤ 11728124029610) : Cv (fun k => laws_toByteSS.f k ls) ls := by
  unfold laws_toByteSS.f
  refine Cv.pos (by omega) (Cv.pos (by omega) ?_)
  have := toSS_l0 ls [] h (by simpa using hm)
  simpa using this
theorem toPS_l0 : ∀ (r pre : List S184), (∀ l ∈ r, l.f1.length ≤ 281474976710656) → (pre ++ r).length ≤ 8796093022208 →
    Cv (fun k => laws_toPendS.l0 k (pre ++ r) (pre.map cv ++ List.replicate r.length z185) (pre.length : Int)) ((pre ++ r).map cv)
  | [], pre, h, hm => by
    refine Cv.step (fun k => laws_toPendS.l0.eq_2 _ _ _ k) (Cv.neg (by simp) (Cv.of ?_))
    simp
  | x :: r, pre, h, hm => by
    have h1 := mid_len pre r x
    have h2 : ((pre.map cv ++ List.replicate (x :: r).length z185).length : Int) = pre.length + r.length + 1 := by simp; omega
    refine Cv.step (fun k => laws_toPendS.l0.eq_2 _ _ _ k) (Cv.pos (by omega) (Cv.pos (by omega) ?_))
    rw [show rd_T184 (pre ++ x :: r) (pre.length : Int) = x from getD_mid _ _ _ _]
    refine Cv.bind (v := (x.f0, x.f1)) ?_ (Cv.pos (by omega) ?_)
    · unfold laws_toPend.f
      exact Cv.bind (toB (h x List.mem_cons_self)) (Cv.of rfl)
    rw [w64 (by omega) (by omega), List.length_cons, List.replicate_succ]
    have hset := set_mid (pre.map cv) (List.replicate r.length z185) z185 (⟨x.f0, x.f1⟩ : S185)
    rw [List.length_map] at hset
    rw [hset, mid_snoc]
    have ih := toPS_l0 r (pre ++ [x]) (fun l hl => h l (List.mem_cons_of_mem _ hl)) (by simpa using hm)
    rw [snoc_len, List.map_append] at ih
    exact ih
theorem toPS {ls : List S184} (h : ∀ l ∈ ls, l.f1.length ≤ 281474976710656) (hm : ls.length ≤ 8796093022208) : Cv (fun k => laws_toPendS.f k ls) (ls.map cv) := by
  unfold laws_toPendS.f
  refine Cv.pos (by omega) (Cv.pos (by omega) ?_)
  have := toPS_l0 ls [] h (by simpa using hm)
  simpa using this
theorem toD {ls : List (List Int)} {ps : List S184} (h : ∀ l ∈ ls, l.length ≤ 281474976710656) (hm : ls.length ≤ 11728124029610) (h' : ∀ l ∈ ps, l.f1.length ≤ 281474976710656) (hm' : ps.length ≤ 8796093022208) : Cv (fun k => laws_toDisk.f k ls ps) (ls, ps.map cv) := by
  unfold laws_toDisk.f
  exact Cv.bind (toSS h hm) (Cv.bind (toPS h' hm') (Cv.of rfl))

/-! ### sizes -/
def totP4 : List S184 → Nat
  | [] => 0
  | p :: r => p.f1.length + totP4 r
theorem szSS_l0 : ∀ (r pre : List (List Int)) (a : Int), 0 ≤ a → a ≤ 1048576 → (∀ l ∈ r, l.length ≤ 9223372036854775807) → (pre ++ r).length ≤ 9223372036854775806 →
    ∃ s, Cv (fun k => laws_szByteSS.l0 k (pre ++ r) a (pre.length : Int)) s ∧ s ≤ 1048576 ∧ (0 ≤ s → (totL r : Int) + s = a)
  | [], pre, a, h0, ha, hr, hm => ⟨a, Cv.step (fun k => laws_szByteSS.l0.eq_2 _ _ _ k) (Cv.neg (by simp) (Cv.of rfl)), ha, fun _ => by simp [totL]⟩
  | x :: r, pre, a, h0, ha, hr, hm => by
    have h1 := mid_len pre r x
    have hx := hr x List.mem_cons_self
    have hw : wrap64 (a - (x.length : Int)) = a - x.length := w64 (by omega) (by omega)
    by_cases hneg : a - (x.length : Int) < 0
    · refine ⟨-1, Cv.step (fun k => laws_szByteSS.l0.eq_2 _ _ _ k) (Cv.pos (by omega) (Cv.pos (by omega) ?_)), by omega, fun h => by omega⟩
      rw [show rd_L2 (pre ++ x :: r) (pre.length : Int) = x from getD_mid _ _ _ _]
      refine Cv.bind (v := -1) (Cv.of ?_) (Cv.pos (by decide) (Cv.of rfl))
      unfold laws_szByteS.f
      rw [hw, if_pos hneg]
    · obtain ⟨s, hs, hs1, hs2⟩ := szSS_l0 r (pre ++ [x]) (a - x.length) (by omega) (by omega) (fun l hl => hr l (List.mem_cons_of_mem _ hl)) (by simpa using hm)
      refine ⟨s, Cv.step (fun k => laws_szByteSS.l0.eq_2 _ _ _ k) (Cv.pos (by omega) (Cv.pos (by omega) ?_)), hs1, fun h => by have := hs2 h; simp only [totL]; omega⟩
      rw [show rd_L2 (pre ++ x :: r) (pre.length : Int) = x from getD_mid _ _ _ _]
      refine Cv.bind (v := a - (x.length : Int)) (Cv.of ?_) (Cv.neg hneg ?_)
      · unfold laws_szByteS.f
        rw [hw, if_neg hneg]
      · rw [w64 (by omega) (by omega)]
        rw [snoc_len, ← mid_snoc] at hs
        exact hs
theorem szSS {ls : List (List Int)} {a : Int} (h0 : 0 ≤ a) (ha : a ≤ 1048576) (hr : ∀ l ∈ ls, l.length ≤ 9223372036854775807) (hm : ls.length ≤ 9223372036854775807) :
    ∃ s, Cv (fun k => laws_szByteSS.f k ls a) s ∧ s ≤ 1048576 ∧ (0 ≤ s → (totL ls : Int) + ls.length + s = a) := by
  have hw : wrap64 (a - (ls.length : Int)) = a - ls.length := w64 (by omega) (by omega)
  by_cases hneg : a - (ls.length : Int) < 0
  · refine ⟨-1, ?_, by omega, fun h => by omega⟩
    unfold laws_szByteSS.f
    rw [hw]
    exact Cv.pos hneg (Cv.of rfl)
  · obtain ⟨s, hs, h1, h2⟩ := szSS_l0 ls [] (a - ls.length) (by omega) (by omega) hr (by simp; omega)
    refine ⟨s, ?_, h1, fun h => by have := h2 h; omega⟩
    unfold laws_szByteSS.f
    rw [hw]
    exact Cv.neg hneg hs
theorem szPS_l0 : ∀ (r pre : List S184) (a : Int), 0 ≤ a → a ≤ 1048576 → (∀ l ∈ r, l.f1.length ≤ 9223372036854775807) → (pre ++ r).length ≤ 9223372036854775806 →
    ∃ s, Cv (fun k => laws_szPendS.l0 k (pre ++ r) a (pre.length : Int)) s ∧ s ≤ 1048576 ∧ (0 ≤ s → (totP4 r : Int) + s = a)
  | [], pre, a, h0, ha, hr, hm => ⟨a, Cv.step (fun k => laws_szPendS.l0.eq_2 _ _ _ k) (Cv.neg (by simp) (Cv.of rfl)), ha, fun _ => by simp [totP4]⟩
  | x :: r, pre, a, h0, ha, hr, hm => by
    have h1 := mid_len pre r x
    have hx := hr x List.mem_cons_self
    have hw : wrap64 (a - (x.f1.length : Int)) = a - x.f1.length := w64 (by omega) (by omega)
    by_cases hneg : a - (x.f1.length : Int) < 0
    · refine ⟨-1, Cv.step (fun k => laws_szPendS.l0.eq_2 _ _ _ k) (Cv.pos (by omega) (Cv.pos (by omega) ?_)), by omega, fun h => by omega⟩
      rw [show rd_T184 (pre ++ x :: r) (pre.length : Int) = x from getD_mid _ _ _ _]
      refine Cv.bind (v := -1) (Cv.of ?_) (Cv.pos (by decide) (Cv.of rfl))
      unfold laws_szPend.f laws_szByteS.f
      rw [hw, if_pos hneg, Option.bind_some, if_pos (by decide)]
    · obtain ⟨s, hs, hs1, hs2⟩ := szPS_l0 r (pre ++ [x]) (a - x.f1.length) (by omega) (by omega) (fun l hl => hr l (List.mem_cons_of_mem _ hl)) (by simpa using hm)
      refine ⟨s, Cv.step (fun k => laws_szPendS.l0.eq_2 _ _ _ k) (Cv.pos (by omega) (Cv.pos (by omega) ?_)), hs1, fun h => by have := hs2 h; simp only [totP4]; omega⟩
      rw [show rd_T184 (pre ++ x :: r) (pre.length : Int) = x from getD_mid _ _ _ _]
      refine Cv.bind (v := a - (x.f1.length : Int)) (Cv.of ?_) (Cv.neg hneg ?_)
      · unfold laws_szPend.f laws_szByteS.f
        rw [hw, if_neg hneg, Option.bind_some, if_neg hneg]
      · rw [w64 (by omega) (by omega)]
        rw [snoc_len, ← mid_snoc] at hs
        exact hs
theorem szPS {ls : List S184} {a : Int} (h0 : 0 ≤ a) (ha : a ≤ 1048576) (hr : ∀ l ∈ ls, l.f1.length ≤ 9223372036854775807) (hm : ls.length ≤ 9223372036854775807) :
    ∃ s, Cv (fun k => laws_szPendS.f k ls a) s ∧ s ≤ 1048576 ∧ (0 ≤ s → (totP4 ls : Int) + ls.length + s = a) := by
  have hw : wrap64 (a - (ls.length : Int)) = a - ls.length := w64 (by omega) (by omega)
  by_cases hneg : a - (ls.length : Int) < 0
  · refine ⟨-1, ?_, by omega, fun h => by omega⟩
    unfold laws_szPendS.f
    rw [hw]
    exact Cv.pos hneg (Cv.of rfl)
  · obtain ⟨s, hs, h1, h2⟩ := szPS_l0 ls [] (a - ls.length) (by omega) (by omega) hr (by simp; omega)
    refine ⟨s, ?_, h1, fun h => by have := h2 h; omega⟩
    unfold laws_szPendS.f
    rw [hw]
    exact Cv.neg hneg hs
theorem szD {ls : List (List Int)} {ps : List S184} {a : Int} (h0 : 0 ≤ a) (ha : a ≤ 1048576) (hr : ∀ l ∈ ls, l.length ≤ 9223372036854775807) (hm : ls.length ≤ 9223372036854775807) (hr' : ∀ l ∈ ps, l.f1.length ≤ 9223372036854775807) (hm' : ps.length ≤ 9223372036854775807) :
    ∃ s, Cv (fun k => laws_szDisk.f k ls ps a) s ∧ s ≤ 1048576 ∧ (0 ≤ s → (totL ls : Int) + ls.length + (totP4 ps + ps.length) + s = a) := by
  obtain ⟨s, hs, h1, h2⟩ := szSS h0 ha hr hm
  by_cases hneg : s < 0
  · refine ⟨-1, ?_, by omega, fun h => by omega⟩
    unfold laws_szDisk.f
    exact Cv.bind hs (Cv.pos hneg (Cv.of rfl))
  · obtain ⟨t, ht, h3, h4⟩ := szPS (a := s) (by omega) h1 hr' hm'
    by_cases hneg2 : t < 0
    · refine ⟨-1, ?_, by omega, fun h => by omega⟩
      unfold laws_szDisk.f
      exact Cv.bind hs (Cv.neg hneg (Cv.bind ht (Cv.pos hneg2 (Cv.of rfl))))
    · refine ⟨t, ?_, h3, fun h => by have := h2 (by omega); have := h4 h; omega⟩
      unfold laws_szDisk.f
      exact Cv.bind hs (Cv.neg hneg (Cv.bind ht (Cv.neg hneg2 (Cv.of rfl))))
theorem le_totL {l : List Int} : ∀ {ls : List (List Int)}, l ∈ ls → l.length ≤ totL ls
  | x :: r, h => by
    rcases List.mem_cons.1 h with rfl | h
    · simp [totL]
    · have := le_totL h
      simp only [totL]
      omega
theorem le_totP4 {q : S184} : ∀ {ls : List S184}, q ∈ ls → q.f1.length ≤ totP4 ls
  | x :: r, h => by
    rcases List.mem_cons.1 h with rfl | h
    · simp [totP4]
    · have := le_totP4 h
      simp only [totP4]
      omega
theorem totP_cv : ∀ (ps : List S184), totP (ps.map cv) = totP4 ps + ps.length
  | [] => rfl
  | p :: r => by
    simp only [List.map_cons, totP, totP4, totP_cv r, cv, List.length_cons]
    omega

/-! ### comparisons -/
theorem eqSS_l0 : ∀ (r pre : List (List Int)), (∀ l ∈ r, l.length ≤ 9223372036854775806) → (pre ++ r).length ≤ 9223372036854775806 → Cv (fun k => laws_eqByteSS.l0 k (pre ++ r) (pre ++ r) (pre.length : Int)) true
  | [], pre, h, hm => Cv.step (fun k => laws_eqByteSS.l0.eq_2 _ _ _ k) (Cv.neg (by simp) (Cv.of rfl))
  | x :: r, pre, h, hm => by
    have h1 := mid_len pre r x
    refine Cv.step (fun k => laws_eqByteSS.l0.eq_2 _ _ _ k) (Cv.pos (by omega) (Cv.pos (by omega) (Cv.pos (by omega) ?_)))
    rw [show rd_L2 (pre ++ x :: r) (pre.length : Int) = x from getD_mid _ _ _ _]
    refine Cv.bind (eqB (h x List.mem_cons_self)) (Cv.pos (decide_eq_true rfl) ?_)
    rw [w64 (by omega) (by omega), mid_snoc, ← snoc_len pre x]
    exact eqSS_l0 r (pre ++ [x]) (fun l hl => h l (List.mem_cons_of_mem _ hl)) (by simpa using hm)
theorem eqPS_l0 : ∀ (r pre : List S185), (∀ l ∈ r, l.f1.length ≤ 9223372036854775806) → (pre ++ r).length ≤ 9223372036854775806 → Cv (fun k => laws_eqPendS.l0 k (pre ++ r) (pre ++ r) (pre.length : Int)) true
  | [], pre, h, hm => Cv.step (fun k => laws_eqPendS.l0.eq_2 _ _ _ k) (Cv.neg (by simp) (Cv.of rfl))
  | x :: r, pre, h, hm => by
    have h1 := mid_len pre r x
    refine Cv.step (fun k => laws_eqPendS.l0.eq_2 _ _ _ k) (Cv.pos (by omega) (Cv.pos (by omega) (Cv.pos (by omega) ?_)))
    rw [show rd_T185 (pre ++ x :: r) (pre.length : Int) = x from getD_mid _ _ _ _]
    refine Cv.bind (v := true) ?_ (Cv.pos rfl ?_)
    · unfold laws_eqPend.f
      exact Cv.pos rfl (Cv.bind (eqB (h x List.mem_cons_self)) (Cv.pos (decide_eq_true rfl) (Cv.of rfl)))
    rw [w64 (by omega) (by omega), mid_snoc, ← snoc_len pre x]
    exact eqPS_l0 r (pre ++ [x]) (fun l hl => h l (List.mem_cons_of_mem _ hl)) (by simpa using hm)
theorem eqD {ls : List (List Int)} {ps : List S185} (h : ∀ l ∈ ls, l.length ≤ 9223372036854775806) (hm : ls.length ≤ 9223372036854775806) (h' : ∀ l ∈ ps, l.f1.length ≤ 9223372036854775806) (hm' : ps.length ≤ 9223372036854775806) : Cv (fun k => laws_eqDisk.f k ls ps ls ps) true := by
  unfold laws_eqDisk.f
  refine Cv.bind (v := true) ?_ (Cv.pos rfl (Cv.bind (v := true) ?_ (Cv.pos rfl (Cv.of rfl))))
  · unfold laws_eqByteSS.f
    exact Cv.pos rfl (eqSS_l0 ls [] h (by simpa using hm))
  · unfold laws_eqPendS.f
    exact Cv.pos rfl (eqPS_l0 ps [] h' (by simpa using hm'))

/-! ### valid disks -/
def okP (n : Nat) (p : S185) : Prop := 0 ≤ p.f0 ∧ p.f0 < (n : Int) ∧ p.f1.length = 64
instance (n : Nat) (p : S185) : Decidable (okP n p) := by unfold okP; exact inferInstance
def okDisk (safe : List (List Int)) (ps : List S185) : Prop := 1 ≤ safe.length ∧ safe.length ≤ 4096 ∧ ps.length ≤ 5000 ∧ (∀ l ∈ safe, l.length = 64) ∧ ∀ p ∈ ps, okP safe.length p
instance (safe : List (List Int)) (ps : List S185) : Decidable (okDisk safe ps) := by unfold okDisk; exact inferInstance
theorem impl_ok_l1 (safe : List (List Int)) (ps : List S185) : ∀ (r pre : List S185), (pre ++ r).length ≤ 9223372036854775806 → Cv (fun k => impl_DiskOk.l1 k (pre ++ r) ((pre ++ r).length : Int) (pre.length : Int) safe ps) (decide (∀ p ∈ r, okP safe.length p))
  | [], pre, hm => Cv.step (fun k => impl_DiskOk.l1.eq_2 _ _ _ _ _ k) (Cv.neg (by simp) (Cv.of (by simp)))
  | x :: r, pre, hm => by
    have h1 := mid_len pre r x
    refine Cv.step (fun k => impl_DiskOk.l1.eq_2 _ _ _ _ _ k) (Cv.pos (by omega) (Cv.pos (by omega) (Cv.pos (by omega) ?_)))
    rw [show rd_T185 (pre ++ x :: r) (pre.length : Int) = x from getD_mid _ _ _ _]
    by_cases h : okP safe.length x
    · have hh := h
      unfold okP at hh
      refine Cv.neg (by omega) (Cv.neg (by omega) (Cv.pos (by omega) ?_))
      have ih := impl_ok_l1 safe ps r (pre ++ [x]) (by simpa using hm)
      rw [← mid_snoc, snoc_len] at ih
      rw [w64 (by omega) (by omega)]
      have e : decide (∀ p ∈ x :: r, okP safe.length p) = decide (∀ p ∈ r, okP safe.length p) := by simp [h]
      rw [e]
      exact ih
    · rw [decide_eq_false (fun hall => h (hall x List.mem_cons_self))]
      unfold okP at h
      by_cases g1 : x.f0 < 0
      · exact Cv.pos g1 (Cv.of rfl)
      · by_cases g2 : x.f0 ≥ (safe.length : Int)
        · exact Cv.neg g1 (Cv.pos g2 (Cv.of rfl))
        · exact Cv.neg g1 (Cv.neg g2 (Cv.neg (by omega) (Cv.of rfl)))
theorem impl_ok_l0 (safe : List (List Int)) (ps : List S185) (hp : ps.length ≤ 9223372036854775806) : ∀ (r pre : List (List Int)), (pre ++ r).length ≤ 9223372036854775806 → Cv (fun k => impl_DiskOk.l0 k (pre ++ r) ((pre ++ r).length : Int) (pre.length : Int) safe ps) (decide ((∀ l ∈ r, l.length = 64) ∧ ∀ p ∈ ps, okP safe.length p))
  | [], pre, hm => by
    refine Cv.step (fun k => impl_DiskOk.l0.eq_2 _ _ _ _ _ k) (Cv.neg (by simp) ?_)
    have h := impl_ok_l1 safe ps ps [] (by simpa using hp)
    simpa using h
  | x :: r, pre, hm => by
    have h1 := mid_len pre r x
    refine Cv.step (fun k => impl_DiskOk.l0.eq_2 _ _ _ _ _ k) (Cv.pos (by omega) (Cv.pos (by omega) (Cv.pos (by omega) ?_)))
    rw [show rd_L2 (pre ++ x :: r) (pre.length : Int) = x from getD_mid _ _ _ _]
    by_cases h : x.length = 64
    · refine Cv.pos (by omega) ?_
      have ih := impl_ok_l0 safe ps hp r (pre ++ [x]) (by simpa using hm)
      rw [← mid_snoc, snoc_len] at ih
      rw [w64 (by omega) (by omega)]
      have e : decide ((∀ l ∈ x :: r, l.length = 64) ∧ ∀ p ∈ ps, okP safe.length p) = decide ((∀ l ∈ r, l.length = 64) ∧ ∀ p ∈ ps, okP safe.length p) := by simp [h]
      rw [e]
      exact ih
    · rw [decide_eq_false (fun hall => h (hall.1 x List.mem_cons_self))]
      exact Cv.neg (by omega) (Cv.of rfl)
theorem impl_ok {safe : List (List Int)} {ps : List S185} : Cv (fun k => impl_DiskOk.f k safe ps) (decide (okDisk safe ps)) := by
  have hj : ∀ (c : Bool), c = true → Cv (fun k => impl_DiskOk.j0 k c safe ps) false := fun c hc => Cv.step (fun k => impl_DiskOk.j0.eq_2 _ _ _ k) (Cv.pos hc (Cv.of rfl))
  unfold impl_DiskOk.f
  by_cases h1 : (safe.length : Int) < 1
  · rw [decide_eq_false (p := okDisk safe ps) (fun h => by unfold okDisk at h; omega)]
    exact Cv.pos h1 (hj _ rfl)
  refine Cv.neg h1 ?_
  by_cases h2 : (safe.length : Int) > 4096
  · rw [decide_eq_false (p := okDisk safe ps) (fun h => by unfold okDisk at h; omega)]
    exact Cv.pos h2 (hj _ rfl)
  refine Cv.neg h2 ?_
  by_cases h3 : (ps.length : Int) > 5000
  · rw [decide_eq_false (p := okDisk safe ps) (fun h => by unfold okDisk at h; omega)]
    exact hj _ (decide_eq_true h3)
  · rw [show decide ((ps.length : Int) > 5000) = false from decide_eq_false h3]
    refine Cv.step (fun k => impl_DiskOk.j0.eq_2 _ _ _ k) (Cv.neg (by decide) ?_)
    have h := impl_ok_l0 safe ps (by omega) safe [] (by simp; omega)
    have e : decide (okDisk safe ps) = decide ((∀ l ∈ safe, l.length = 64) ∧ ∀ p ∈ ps, okP safe.length p) := by
      have g1 : 1 ≤ safe.length := by omega
      have g2 : safe.length ≤ 4096 := by omega
      have g3 : ps.length ≤ 5000 := by omega
      unfold okDisk
      simp [g1, g2, g3]
    rw [e]
    exact h
theorem spec_ok_l1 (safe : List (List Int)) : ∀ (r pre : List S185), (pre ++ r).length ≤ 9223372036854775806 → Cv (fun k => spec_DiskOk.l1 k (safe.length : Int) (pre.length : Int) safe (pre ++ r)) (decide (∀ p ∈ r, okP safe.length p))
  | [], pre, hm => Cv.step (fun k => spec_DiskOk.l1.eq_2 _ _ _ _ k) (Cv.neg (by simp) (Cv.of (by simp)))
  | x :: r, pre, hm => by
    have h1 := mid_len pre r x
    refine Cv.step (fun k => spec_DiskOk.l1.eq_2 _ _ _ _ k) (Cv.pos (by omega) (Cv.pos (by omega) ?_))
    rw [show rd_T185 (pre ++ x :: r) (pre.length : Int) = x from getD_mid _ _ _ _]
    by_cases h : okP safe.length x
    · have hh := h
      unfold okP at hh
      refine Cv.neg (by omega) (Cv.neg (by omega) (Cv.pos (by omega) ?_))
      have ih := spec_ok_l1 safe r (pre ++ [x]) (by simpa using hm)
      rw [← mid_snoc, snoc_len] at ih
      rw [w64 (by omega) (by omega)]
      have e : decide (∀ p ∈ x :: r, okP safe.length p) = decide (∀ p ∈ r, okP safe.length p) := by simp [h]
      rw [e]
      exact ih
    · rw [decide_eq_false (fun hall => h (hall x List.mem_cons_self))]
      unfold okP at h
      by_cases g1 : x.f0 < 0
      · exact Cv.pos g1 (Cv.of rfl)
      · by_cases g2 : x.f0 ≥ (safe.length : Int)
        · exact Cv.neg g1 (Cv.pos g2 (Cv.of rfl))
        · exact Cv.neg g1 (Cv.neg g2 (Cv.neg (by omega) (Cv.of rfl)))
theorem spec_ok_l0 (ps : List S185) (hp : ps.length ≤ 9223372036854775806) : ∀ (r pre : List (List Int)), (pre ++ r).length ≤ 9223372036854775806 → Cv (fun k => spec_DiskOk.l0 k ((pre ++ r).length : Int) (pre.length : Int) (pre ++ r) ps) (decide ((∀ l ∈ r, l.length = 64) ∧ ∀ p ∈ ps, okP (pre ++ r).length p))
  | [], pre, hm => by
    refine Cv.step (fun k => spec_DiskOk.l0.eq_2 _ _ _ _ k) (Cv.neg (by simp) ?_)
    have h := spec_ok_l1 (pre ++ []) ps [] (by simpa using hp)
    simpa using h
  | x :: r, pre, hm => by
    have h1 := mid_len pre r x
    refine Cv.step (fun k => spec_DiskOk.l0.eq_2 _ _ _ _ k) (Cv.pos (by omega) (Cv.pos (by omega) (Cv.pos (by omega) ?_)))
    rw [show rd_L2 (pre ++ x :: r) (pre.length : Int) = x from getD_mid _ _ _ _]
    by_cases h : x.length = 64
    · refine Cv.pos (by omega) ?_
      have ih := spec_ok_l0 ps hp r (pre ++ [x]) (by simpa using hm)
      rw [← mid_snoc, snoc_len] at ih
      rw [w64 (by omega) (by omega)]
      have e : decide ((∀ l ∈ x :: r, l.length = 64) ∧ ∀ p ∈ ps, okP (pre ++ x :: r).length p) = decide ((∀ l ∈ r, l.length = 64) ∧ ∀ p ∈ ps, okP (pre ++ x :: r).length p) := by simp [h]
      rw [e]
      exact ih
    · rw [decide_eq_false (fun hall => h (hall.1 x List.mem_cons_self))]
      exact Cv.neg (by omega) (Cv.of rfl)
theorem spec_ok {safe : List (List Int)} {ps : List S185} : Cv (fun k => spec_DiskOk.f k safe ps) (decide (okDisk safe ps)) := by
  have hj : ∀ (c : Bool), c = true → Cv (fun k => spec_DiskOk.j0 k (safe.length : Int) c safe ps) false := fun c hc => Cv.step (fun k => spec_DiskOk.j0.eq_2 _ _ _ _ k) (Cv.pos hc (Cv.of rfl))
  unfold spec_DiskOk.f
  by_cases h1 : (safe.length : Int) < 1
  · rw [decide_eq_false (p := okDisk safe ps) (fun h => by unfold okDisk at h; omega)]
    exact Cv.pos h1 (hj _ rfl)
  refine Cv.neg h1 ?_
  by_cases h2 : (safe.length : Int) > 4096
  · rw [decide_eq_false (p := okDisk safe ps) (fun h => by unfold okDisk at h; omega)]
    exact Cv.pos h2 (hj _ rfl)
  refine Cv.neg h2 ?_
  by_cases h3 : (ps.length : Int) > 5000
  · rw [decide_eq_false (p := okDisk safe ps) (fun h => by unfold okDisk at h; omega)]
    exact hj _ (decide_eq_true h3)
  · rw [show decide ((ps.length : Int) > 5000) = false from decide_eq_false h3]
    refine Cv.step (fun k => spec_DiskOk.j0.eq_2 _ _ _ _ k) (Cv.neg (by decide) ?_)
    have h := spec_ok_l0 ps (by omega) safe [] (by simp; omega)
    have e : decide (okDisk safe ps) = decide ((∀ l ∈ safe, l.length = 64) ∧ ∀ p ∈ ps, okP safe.length p) := by
      have g1 : 1 ≤ safe.length := by omega
      have g2 : safe.length ≤ 4096 := by omega
      have g3 : ps.length ≤ 5000 := by omega
      unfold okDisk
      simp [g1, g2, g3]
    rw [e]
    exact h

/-! ### what sectors hold now -/
def nowL (safe : List (List Int)) (ps : List S185) : List (List Int) := ps.foldl (fun s p => s.set p.f0.toNat p.f1) safe
theorem nowL_length : ∀ (ps : List S185) (safe : List (List Int)), (nowL safe ps).length = safe.length
  | [], _ => rfl
  | p :: r, safe => by
    have := nowL_length r (safe.set p.f0.toNat p.f1)
    simpa [nowL] using this
theorem nowL_snoc (safe : List (List Int)) (ps : List S185) (p : S185) : nowL safe (ps ++ [p]) = (nowL safe ps).set p.f0.toNat p.f1 := by
  unfold nowL
  rw [List.foldl_append]
  rfl
theorem spec_now_l0 (s0 : List (List Int)) (n : Nat) (hn : n ≤ 4096) : ∀ (r pre : List S185) (acc : List (List Int)), (pre ++ r).length ≤ 9223372036854775806 → acc.length = n → (∀ p ∈ r, okP n p) → Cv (fun k => spec_l1Now.l0 k acc (pre.length : Int) s0 (pre ++ r)) (nowL acc r)
  | [], pre, acc, hm, ha, hr => Cv.step (fun k => spec_l1Now.l0.eq_2 _ _ _ _ k) (Cv.neg (by simp) (Cv.of rfl))
  | x :: r, pre, acc, hm, ha, hr => by
    have h1 := mid_len pre r x
    have hx := hr x List.mem_cons_self
    unfold okP at hx
    refine Cv.step (fun k => spec_l1Now.l0.eq_2 _ _ _ _ k) (Cv.pos (by omega) (Cv.pos (by omega) ?_))
    rw [show rd_T185 (pre ++ x :: r) (pre.length : Int) = x from getD_mid _ _ _ _]
    refine Cv.pos (by omega) (Cv.pos (by omega) ?_)
    have ih := spec_now_l0 s0 n hn r (pre ++ [x]) (acc.set x.f0.toNat x.f1) (by simpa using hm) (by simpa using ha) (fun p hp => hr p (List.mem_cons_of_mem _ hp))
    rw [← mid_snoc, snoc_len] at ih
    rw [w64 (by omega) (by omega)]
    exact ih
theorem spec_now {safe : List (List Int)} {ps : List S185} (h : okDisk safe ps) : Cv (fun k => spec_l1Now.f k safe ps) (nowL safe ps) := by
  obtain ⟨h1, h2, h3, h4, h5⟩ := h
  unfold spec_l1Now.f
  refine Cv.bind (Cv.of rfl) (Cv.pos (by simp; omega) ?_)
  exact spec_now_l0 safe safe.length h2 ps [] ([] ++ safe) (by simp; omega) (by simp) h5
theorem lastM_range : ∀ (n : Nat) (ps : List S185), ps.length = n → ∀ y i, lastM ps y = some i → 0 ≤ i ∧ i < (ps.length : Int)
  | 0, ps, hn, y, i, h => by
    obtain rfl := List.eq_nil_of_length_eq_zero hn
    rw [lastM_nil] at h
    cases h
  | n + 1, ps, hn, y, i, h => by
    obtain ⟨qs, q, rfl⟩ : ∃ qs q, ps = qs ++ [q] := by
      rcases List.eq_nil_or_concat ps with rfl | ⟨qs, q, e⟩
      · simp at hn
      · exact ⟨qs, q, by simpa using e⟩
    have hl : qs.length = n := by simpa using hn
    rw [lastM_snoc] at h
    dsimp only at h
    by_cases hy : y = q.f0
    · rw [if_pos hy] at h
      obtain rfl := Option.some.inj h
      simp
      omega
    · rw [if_neg hy] at h
      have := lastM_range n qs hl y i h
      simp
      omega
theorem now_last {safe : List (List Int)} : ∀ (n : Nat) (ps : List S185), ps.length = n → (∀ p ∈ ps, okP safe.length p) → ∀ y, 0 ≤ y → y < (safe.length : Int) →
    rd_L2 (nowL safe ps) y = (match lastM ps y with | some i => (rd_T185 ps i).f1 | none => rd_L2 safe y)
  | 0, ps, hn, hp, y, h0, h1 => by
    obtain rfl := List.eq_nil_of_length_eq_zero hn
    rw [lastM_nil]
    rfl
  | n + 1, ps, hn, hp, y, h0, h1 => by
    obtain ⟨qs, q, rfl⟩ : ∃ qs q, ps = qs ++ [q] := by
      rcases List.eq_nil_or_concat ps with rfl | ⟨qs, q, e⟩
      · simp at hn
      · exact ⟨qs, q, by simpa using e⟩
    have hl : qs.length = n := by simpa using hn
    have hq := hp q (by simp)
    unfold okP at hq
    have ih := now_last n qs hl (fun p h => hp p (by simp [h])) y h0 h1
    have hnl := nowL_length qs safe
    rw [lastM_snoc, nowL_snoc]
    dsimp only
    by_cases hy : y = q.f0
    · rw [if_pos hy]
      subst hy
      dsimp only
      have e1 : rd_T185 (qs ++ [q]) (qs.length : Int) = q := by
        have := getD_mid qs [] q z185
        exact this
      rw [e1]
      unfold rd_L2
      rw [List.getD_eq_getElem?_getD, List.getElem?_set_self (by omega)]
      rfl
    · rw [if_neg hy]
      have e2 : rd_L2 ((nowL safe qs).set q.f0.toNat q.f1) y = rd_L2 (nowL safe qs) y := by
        unfold rd_L2
        rw [List.getD_eq_getElem?_getD, List.getElem?_set_ne (by omega), List.getD_eq_getElem?_getD]
      rw [e2, ih]
      cases hm : lastM qs y with
      | none => rfl
      | some i =>
        have hi := lastM_range n qs hl y i hm
        dsimp only
        congr 1
        unfold rd_T185
        rw [List.getD_eq_getElem?_getD, List.getD_eq_getElem?_getD, List.getElem?_append_left (by omega)]

/-! ### ReadSector -/
theorem nowL_len : ∀ (ps : List S185) (safe : List (List Int)), (∀ l ∈ safe, l.length = 64) → (∀ p ∈ ps, p.f1.length = 64) → ∀ l ∈ nowL safe ps, l.length = 64
  | [], _, h, _ => h
  | p :: r, safe, h, hp => by
    refine nowL_len r (safe.set p.f0.toNat p.f1) (fun l hl => ?_) (fun q hq => hp q (List.mem_cons_of_mem _ hq))
    rcases List.mem_or_eq_of_mem_set hl with h1 | h1
    · exact h l h1
    · rw [h1]; exact hp p List.mem_cons_self
theorem rd_L2_mem {ls : List (List Int)} {x : Int} (h0 : 0 ≤ x) (h1 : x < (ls.length : Int)) : rd_L2 ls x ∈ ls := by
  unfold rd_L2
  rw [List.getD_eq_getElem?_getD, List.getElem?_eq_getElem (by omega)]
  exact List.getElem_mem _
theorem rows_len {w : World} {A : Option Addr} {n : Nat} {xs : List (List Int)} (h : Kd.C (Kd.slice 5 (Kd.int .u8)) w A n xs) : ∀ l ∈ xs, l.length ≤ 9223372036854775807 := by
  intro l hl
  obtain ⟨i, hi⟩ := List.getElem?_of_mem hl
  have hn : 0 < n := by
    have := (List.getElem?_eq_some_iff.1 hi).1
    rw [h.1] at this
    omega
  obtain ⟨ad, _, hc⟩ := h.2.2 hn
  obtain ⟨c, _, ⟨A', c', _, _, hC⟩, _⟩ := hc i l hi
  exact hC.2.1
theorem pends_len {w : World} {A : Option Addr} {n : Nat} {xs : List S184} (h : Kd.C k184 w A n xs) : ∀ q ∈ xs, q.f1.length ≤ 9223372036854775807 := by
  intro q hq
  obtain ⟨i, hi⟩ := List.getElem?_of_mem hq
  have hn : 0 < n := by
    have := (List.getElem?_eq_some_iff.1 hi).1
    rw [h.1] at this
    omega
  obtain ⟨ad, _, hc⟩ := h.2.2 hn
  obtain ⟨c, _, hK, _⟩ := hc i q hi
  obtain ⟨A', c', _, _, hC⟩ := k184_open hK
  exact hC.2.1
end Go.Proofs.Ytlopmffdebhpfaa.Pure
