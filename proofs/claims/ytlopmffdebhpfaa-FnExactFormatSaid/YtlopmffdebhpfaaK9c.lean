/- Texts of this proof, joined in their build order: G28 DiskP DiskL DoL Do L1Do CloneA CopyA DoI G35 G37 G39 G40 G111 G112 G41 DoP Play MarkO G42 G44 G46 PlayP PlayF SFmt G152 SV SVP. -/
import Derived.Test.YtlopmffdebhpfaaK9a
import Derived.Test.YtlopmffdebhpfaaK9b
import Derived.BigQuiet
/-! ## G28 -/
namespace Go.Proofs.Ytlopmffdebhpfaa.G
open Go.RowKit Go.Proofs.YtlopmffdebhpfaaW.PrintWords Go.Proofs.YtlopmffdebhpfaaW.PrintLast Go.Proofs.YtlopmffdebhpfaaW.PrintMore
attribute [local go_sem] max2_int min2_int max_two min_two max_three min_three max_four min_four
set_option linter.unusedVariables false
set_option linter.unusedSimpArgs false

/-! ### laws_eqDisk: function 28 -/
def laws_eqDisk.f (k : Nat) (l0_0 : List (List Int)) (l0_1 : List (S185)) (l1_0 : List (List Int)) (l1_1 : List (S185)) : Option (Bool) := (laws_eqByteSS.f k l0_0 l1_0).bind fun t418 => (if t418 = true then ((laws_eqPendS.f k l0_1 l1_1).bind fun t419 => (if t419 = true then (some true) else (some false))) else (some false))
set_option maxHeartbeats 8000000 in
set_option maxRecDepth 100000 in
theorem laws_eqDisk.calls (k : Nat) (A0_0 : Option Addr) (c0_0 : Nat) (l0_0 : List (List Int)) (A0_1 : Option Addr) (c0_1 : Nat) (l0_1 : List (S185)) (A1_0 : Option Addr) (c1_0 : Nat) (l1_0 : List (List Int)) (A1_1 : Option Addr) (c1_1 : Nat) (l1_1 : List (S185)) (r : Bool) (w : World) (hr0_0 : Kd.C (Kd.slice 5 (Kd.int .u8)) w A0_0 l0_0.length l0_0) (hc0_0 : l0_0.length ≤ c0_0) (hr0_1 : Kd.C k185 w A0_1 l0_1.length l0_1) (hc0_1 : l0_1.length ≤ c0_1) (hr1_0 : Kd.C (Kd.slice 5 (Kd.int .u8)) w A1_0 l1_0.length l1_0) (hc1_0 : l1_0.length ≤ c1_0) (hr1_1 : Kd.C k185 w A1_1 l1_1.length l1_1) (hc1_1 : l1_1.length ≤ c1_1) (h : laws_eqDisk.f k l0_0 l0_1 l1_0 l1_1 = some r) :
    Calls Try.prog 28 #[.agg #[.slice A0_0 l0_0.length c0_0, .slice A0_1 l0_1.length c0_1], .agg #[.slice A1_0 l1_0.length c1_0, .slice A1_1 l1_1.length c1_1]] w fun e w' => e = .returned (.bool r) ∧ Below w.heap.size w w' := by
  have hu44 := Try.underlying44
  have HR0_0 := Aside0.mk hr0_0
  have HC0_0 := Aside0.mk hc0_0
  clear hr0_0 hc0_0
  have HR0_1 := Aside0.mk hr0_1
  have HC0_1 := Aside0.mk hc0_1
  clear hr0_1 hc0_1
  have HR1_0 := Aside0.mk hr1_0
  have HC1_0 := Aside0.mk hc1_0
  clear hr1_0 hc1_0
  have HR1_1 := Aside0.mk hr1_1
  have HC1_1 := Aside0.mk hc1_1
  clear hr1_1 hc1_1
  have HB := Aside0.mk (Below.refl w.heap.size w)
  have H : ((laws_eqByteSS.f k l0_0 l1_0).bind fun t418 => (if t418 = true then ((laws_eqPendS.f k l0_1 l1_1).bind fun t419 => (if t419 = true then (some true) else (some false))) else (some false))) = some r := h
  clear h
  replace H := Option.bind_eq_some_iff.mp H
  obtain ⟨t418, A30, H⟩ := H
  replace H : (if t418 = true then ((laws_eqPendS.f k l0_1 l1_1).bind fun t419 => (if t419 = true then (some true) else (some false))) else (some false)) = some r := H
  have A3 := Aside0.mk A30
  clear A30
  by_cases c4 : t418 = true
  · subst c4
    have H1 : ((laws_eqPendS.f k l0_1 l1_1).bind fun t419 => (if t419 = true then (some true) else (some false))) = some r := by rw [if_pos rfl] at H; exact H
    clear H
    have H := H1
    clear H1
    replace H := Option.bind_eq_some_iff.mp H
    obtain ⟨t419, A50, H⟩ := H
    replace H : (if t419 = true then (some true) else (some false)) = some r := H
    have A5 := Aside0.mk A50
    clear A50
    by_cases c6 : t419 = true
    · subst c6
      have H1 : (some true) = some r := by rw [if_pos rfl] at H; exact H
      clear H
      have H := H1
      clear H1
      obtain rfl := Option.some.inj H
      go_enter Try.func28, Try.ntmps28
      go_wp2_with (first | ((with_reducible refine gate_dst (N := 2) rfl ?_); refine box_event ?hg (N := 2) ?hd (cs := #[.slice A0_0 l0_0.length c0_0, .slice A0_1 l0_1.length c0_1]) (t := 44) ?hr ?_; (case hd => rfl); (case hg => rfl); (case hr => first | (go_simp; done) | (go_simp; rfl)); intro gb416 hg w7 hbox hb; have n0_ := Aside0.mk (below_step (by repeat (first | (with_reducible first | exact HB.out | apply below_alloc | apply pw_below_drewN | apply below_drew1) | exact HB.out)) hb); have n1_ := Aside0.mk (hbox); have n2_ := Aside0.mk ((by rw [hg]; exact (below_size (by repeat (first | (with_reducible first | exact HB.out | apply below_alloc | apply pw_below_drewN | apply below_drew1) | exact HB.out))) : w.heap.size ≤ gb416)); have n3_ := Aside0.mk ((by rw [hg]; exact (below_size (by repeat (first | (with_reducible first | exact HB.out | apply below_alloc | apply pw_below_drewN | apply below_drew1) | exact HB.out))) : w.heap.size ≤ gb416)); clear HB; have HB := n0_; have BK416 := n1_; have GW416 := n2_; have GE416 := n3_; clear n0_ n1_ n2_ n3_; clear hb hbox hg) | ((with_reducible refine gate_dst (N := 3) rfl ?_); refine box_event ?hg (N := 3) ?hd (cs := #[.slice A1_0 l1_0.length c1_0, .slice A1_1 l1_1.length c1_1]) (t := 44) ?hr ?_; (case hd => rfl); (case hg => rfl); (case hr => first | (go_simp; done) | (go_simp; rfl)); intro gb417 hg w8 hbox hb; have n0_ := Aside0.mk (blk_below (g := gb416) (o := .cells #[.slice A0_0 l0_0.length c0_0, .slice A0_1 l0_1.length c0_1] 44 (0, 0)) (by (with_reducible repeat (first | refine blk_drewN ?_ _ | refine blk_drew ?_ | refine blk_alloc ?_ _)); exact BK416.out) hb); have n1_ := Aside0.mk (below_step (by repeat (first | (with_reducible first | exact HB.out | apply below_alloc | apply pw_below_drewN | apply below_drew1 | refine below_set ?_ GE416.out) | exact HB.out)) hb); have n2_ := Aside0.mk (hbox); have n3_ := Aside0.mk ((by rw [hg]; exact (below_size (by repeat (first | (with_reducible first | exact HB.out | apply below_alloc | apply pw_below_drewN | apply below_drew1 | refine below_set ?_ GE416.out) | exact HB.out))) : w.heap.size ≤ gb417)); have n4_ := Aside0.mk ((by rw [hg]; exact (below_size (by repeat (first | (with_reducible first | exact HB.out | apply below_alloc | apply pw_below_drewN | apply below_drew1 | refine below_set ?_ GE416.out) | exact HB.out))) : w.heap.size ≤ gb417)); have n5_ := Aside0.mk ((by rw [hg]; exact Nat.ne_of_lt (blk_lt (g := gb416) (o := .cells #[.slice A0_0 l0_0.length c0_0, .slice A0_1 l0_1.length c0_1] 44 (0, 0)) (by (with_reducible repeat (first | refine blk_drewN ?_ _ | refine blk_drew ?_ | refine blk_alloc ?_ _)); exact BK416.out)) : gb416 ≠ gb417)); have n6_ := Aside0.mk ((by rw [hg]; exact Nat.ne_of_gt (blk_lt (g := gb416) (o := .cells #[.slice A0_0 l0_0.length c0_0, .slice A0_1 l0_1.length c0_1] 44 (0, 0)) (by (with_reducible repeat (first | refine blk_drewN ?_ _ | refine blk_drew ?_ | refine blk_alloc ?_ _)); exact BK416.out)) : gb417 ≠ gb416)); clear BK416; clear HB; have BK416 := n0_; have HB := n1_; have BK417 := n2_; have GW417 := n3_; have GE417 := n4_; have NB416_417 := n5_; have NB417_416 := n6_; clear n0_ n1_ n2_ n3_ n4_ n5_ n6_; clear hb hbox hg; have hnb9 := NB416_417.out; have hnc9 := NB417_416.out; have hcz10_0 : w8.cell? ⟨gb416, 0, none⟩ = some (.slice A0_0 l0_0.length c0_0) := (blk_cell BK416.out 0).trans rfl; have hcz10_1 : w8.cell? ⟨gb416, 1, none⟩ = some (.slice A0_1 l0_1.length c0_1) := (blk_cell BK416.out 1).trans rfl; have hfz10_0 := blk_frozen BK416.out 0; have hfz10_1 := blk_frozen BK416.out 1; have hcz11_0 : w8.cell? ⟨gb417, 0, none⟩ = some (.slice A1_0 l1_0.length c1_0) := (blk_cell BK417.out 0).trans rfl; have hcz11_1 : w8.cell? ⟨gb417, 1, none⟩ = some (.slice A1_1 l1_1.length c1_1) := (blk_cell BK417.out 1).trans rfl; have hfz11_0 := blk_frozen BK417.out 0; have hfz11_1 := blk_frozen BK417.out 1) | ((with_reducible refine gate_callee (f := 91) rfl ?_); refine goesL_ (some 9) rfl rfl Try.func91 (by kernel_rfl) rfl #[.slice A0_0 l0_0.length c0_0, .slice A1_0 l1_0.length c1_0] rfl (by (try simp only [List.map_toArray, List.map_cons, List.map_nil]); first | done | rfl | (simp only [List.length_drop, List.length_take]; rfl)) ?_; (with_reducible refine (laws_eqByteSS.calls k _ _ l0_0 _ _ l1_0 true _ ?side1 ?side2 ?side3 ?side4 A3.out).mono ?_); (case side1 => repeat (first | exact (Kd.C_below HR0_0.out HB.out) | (with_reducible refine Kd.C_alloc ?_ _) | (with_reducible refine Kd.C_drewN ?_ _) | (with_reducible refine Kd.C_drew ?_))); (case side2 => exact HC0_0.out); (case side3 => repeat (first | exact (Kd.C_below HR1_0.out HB.out) | (with_reducible refine Kd.C_alloc ?_ _) | (with_reducible refine Kd.C_drewN ?_ _) | (with_reducible refine Kd.C_drew ?_))); (case side4 => exact HC1_0.out); rintro e w' ⟨rfl, ⟨nd, rfl⟩⟩; refine ⟨_, rfl, ?_⟩) | ((with_reducible refine gate_callee (f := 92) rfl ?_); refine goesL_ (some 15) rfl rfl Try.func92 (by kernel_rfl) rfl #[.slice A0_1 l0_1.length c0_1, .slice A1_1 l1_1.length c1_1] rfl (by (try simp only [List.map_toArray, List.map_cons, List.map_nil]); first | done | rfl | (simp only [List.length_drop, List.length_take]; rfl)) ?_; (with_reducible refine (laws_eqPendS.calls k _ _ l0_1 _ _ l1_1 true _ ?side1 ?side2 ?side3 ?side4 A5.out).mono ?_); (case side1 => repeat (first | exact (Kd.C_below HR0_1.out (by repeat (first | (with_reducible first | exact HB.out | apply below_alloc | apply pw_below_drewN | apply below_drew1 | refine below_set ?_ GE416.out | refine below_set ?_ GE417.out) | exact HB.out))) | (with_reducible refine Kd.C_alloc ?_ _) | (with_reducible refine Kd.C_drewN ?_ _) | (with_reducible refine Kd.C_drew ?_))); (case side2 => exact HC0_1.out); (case side3 => repeat (first | exact (Kd.C_below HR1_1.out (by repeat (first | (with_reducible first | exact HB.out | apply below_alloc | apply pw_below_drewN | apply below_drew1 | refine below_set ?_ GE416.out | refine below_set ?_ GE417.out) | exact HB.out))) | (with_reducible refine Kd.C_alloc ?_ _) | (with_reducible refine Kd.C_drewN ?_ _) | (with_reducible refine Kd.C_drew ?_))); (case side4 => exact HC1_1.out); rintro e w12 ⟨rfl, hb⟩; refine ⟨_, rfl, ?_⟩; have n0_ := Aside0.mk (blk_below (g := gb416) (o := .cells #[.slice A0_0 l0_0.length c0_0, .slice A0_1 l0_1.length c0_1] 44 (0, 0)) (by (with_reducible repeat (first | refine blk_drewN ?_ _ | refine blk_drew ?_ | refine blk_alloc ?_ _)); exact BK416.out) hb); have n1_ := Aside0.mk (blk_below (g := gb417) (o := .cells #[.slice A1_0 l1_0.length c1_0, .slice A1_1 l1_1.length c1_1] 44 (0, 0)) (by (with_reducible repeat (first | refine blk_drewN ?_ _ | refine blk_drew ?_ | refine blk_alloc ?_ _)); exact BK417.out) hb); have n2_ := Aside0.mk (below_step (by repeat (first | (with_reducible first | exact HB.out | apply below_alloc | apply pw_below_drewN | apply below_drew1 | refine below_set ?_ GE416.out | refine below_set ?_ GE417.out) | exact HB.out)) hb); clear BK416; clear BK417; clear HB; have BK416 := n0_; have BK417 := n1_; have HB := n2_; clear n0_ n1_ n2_; (try clear hb); (try clear hb2); (try clear hk); (try clear hi)))
      go_ret
      exact ⟨by first | rfl | (simp [errW_none, errW_some] <;> rfl) | (simp [*, errW_none, errW_some] <;> rfl), by repeat (first | (with_reducible first | exact HB.out | apply below_alloc | apply pw_below_drewN | apply below_drew1 | refine below_set ?_ GE416.out | refine below_set ?_ GE417.out) | exact HB.out)⟩
    · replace c6 := Bool.eq_false_iff.mpr c6
      subst c6
      have H1 : (some false) = some r := by rw [if_neg (show ¬ (false = true) by decide)] at H; exact H
      clear H
      have H := H1
      clear H1
      obtain rfl := Option.some.inj H
      go_enter Try.func28, Try.ntmps28
      go_wp2_with (first | ((with_reducible refine gate_dst (N := 2) rfl ?_); refine box_event ?hg (N := 2) ?hd (cs := #[.slice A0_0 l0_0.length c0_0, .slice A0_1 l0_1.length c0_1]) (t := 44) ?hr ?_; (case hd => rfl); (case hg => rfl); (case hr => first | (go_simp; done) | (go_simp; rfl)); intro gb416 hg w13 hbox hb; have n0_ := Aside0.mk (below_step (by repeat (first | (with_reducible first | exact HB.out | apply below_alloc | apply pw_below_drewN | apply below_drew1) | exact HB.out)) hb); have n1_ := Aside0.mk (hbox); have n2_ := Aside0.mk ((by rw [hg]; exact (below_size (by repeat (first | (with_reducible first | exact HB.out | apply below_alloc | apply pw_below_drewN | apply below_drew1) | exact HB.out))) : w.heap.size ≤ gb416)); have n3_ := Aside0.mk ((by rw [hg]; exact (below_size (by repeat (first | (with_reducible first | exact HB.out | apply below_alloc | apply pw_below_drewN | apply below_drew1) | exact HB.out))) : w.heap.size ≤ gb416)); clear HB; have HB := n0_; have BK416 := n1_; have GW416 := n2_; have GE416 := n3_; clear n0_ n1_ n2_ n3_; clear hb hbox hg) | ((with_reducible refine gate_dst (N := 3) rfl ?_); refine box_event ?hg (N := 3) ?hd (cs := #[.slice A1_0 l1_0.length c1_0, .slice A1_1 l1_1.length c1_1]) (t := 44) ?hr ?_; (case hd => rfl); (case hg => rfl); (case hr => first | (go_simp; done) | (go_simp; rfl)); intro gb417 hg w14 hbox hb; have n0_ := Aside0.mk (blk_below (g := gb416) (o := .cells #[.slice A0_0 l0_0.length c0_0, .slice A0_1 l0_1.length c0_1] 44 (0, 0)) (by (with_reducible repeat (first | refine blk_drewN ?_ _ | refine blk_drew ?_ | refine blk_alloc ?_ _)); exact BK416.out) hb); have n1_ := Aside0.mk (below_step (by repeat (first | (with_reducible first | exact HB.out | apply below_alloc | apply pw_below_drewN | apply below_drew1 | refine below_set ?_ GE416.out) | exact HB.out)) hb); have n2_ := Aside0.mk (hbox); have n3_ := Aside0.mk ((by rw [hg]; exact (below_size (by repeat (first | (with_reducible first | exact HB.out | apply below_alloc | apply pw_below_drewN | apply below_drew1 | refine below_set ?_ GE416.out) | exact HB.out))) : w.heap.size ≤ gb417)); have n4_ := Aside0.mk ((by rw [hg]; exact (below_size (by repeat (first | (with_reducible first | exact HB.out | apply below_alloc | apply pw_below_drewN | apply below_drew1 | refine below_set ?_ GE416.out) | exact HB.out))) : w.heap.size ≤ gb417)); have n5_ := Aside0.mk ((by rw [hg]; exact Nat.ne_of_lt (blk_lt (g := gb416) (o := .cells #[.slice A0_0 l0_0.length c0_0, .slice A0_1 l0_1.length c0_1] 44 (0, 0)) (by (with_reducible repeat (first | refine blk_drewN ?_ _ | refine blk_drew ?_ | refine blk_alloc ?_ _)); exact BK416.out)) : gb416 ≠ gb417)); have n6_ := Aside0.mk ((by rw [hg]; exact Nat.ne_of_gt (blk_lt (g := gb416) (o := .cells #[.slice A0_0 l0_0.length c0_0, .slice A0_1 l0_1.length c0_1] 44 (0, 0)) (by (with_reducible repeat (first | refine blk_drewN ?_ _ | refine blk_drew ?_ | refine blk_alloc ?_ _)); exact BK416.out)) : gb417 ≠ gb416)); clear BK416; clear HB; have BK416 := n0_; have HB := n1_; have BK417 := n2_; have GW417 := n3_; have GE417 := n4_; have NB416_417 := n5_; have NB417_416 := n6_; clear n0_ n1_ n2_ n3_ n4_ n5_ n6_; clear hb hbox hg; have hnb15 := NB416_417.out; have hnc15 := NB417_416.out; have hcz16_0 : w14.cell? ⟨gb416, 0, none⟩ = some (.slice A0_0 l0_0.length c0_0) := (blk_cell BK416.out 0).trans rfl; have hcz16_1 : w14.cell? ⟨gb416, 1, none⟩ = some (.slice A0_1 l0_1.length c0_1) := (blk_cell BK416.out 1).trans rfl; have hfz16_0 := blk_frozen BK416.out 0; have hfz16_1 := blk_frozen BK416.out 1; have hcz17_0 : w14.cell? ⟨gb417, 0, none⟩ = some (.slice A1_0 l1_0.length c1_0) := (blk_cell BK417.out 0).trans rfl; have hcz17_1 : w14.cell? ⟨gb417, 1, none⟩ = some (.slice A1_1 l1_1.length c1_1) := (blk_cell BK417.out 1).trans rfl; have hfz17_0 := blk_frozen BK417.out 0; have hfz17_1 := blk_frozen BK417.out 1) | ((with_reducible refine gate_callee (f := 91) rfl ?_); refine goesL_ (some 9) rfl rfl Try.func91 (by kernel_rfl) rfl #[.slice A0_0 l0_0.length c0_0, .slice A1_0 l1_0.length c1_0] rfl (by (try simp only [List.map_toArray, List.map_cons, List.map_nil]); first | done | rfl | (simp only [List.length_drop, List.length_take]; rfl)) ?_; (with_reducible refine (laws_eqByteSS.calls k _ _ l0_0 _ _ l1_0 true _ ?side1 ?side2 ?side3 ?side4 A3.out).mono ?_); (case side1 => repeat (first | exact (Kd.C_below HR0_0.out HB.out) | (with_reducible refine Kd.C_alloc ?_ _) | (with_reducible refine Kd.C_drewN ?_ _) | (with_reducible refine Kd.C_drew ?_))); (case side2 => exact HC0_0.out); (case side3 => repeat (first | exact (Kd.C_below HR1_0.out HB.out) | (with_reducible refine Kd.C_alloc ?_ _) | (with_reducible refine Kd.C_drewN ?_ _) | (with_reducible refine Kd.C_drew ?_))); (case side4 => exact HC1_0.out); rintro e w' ⟨rfl, ⟨nd, rfl⟩⟩; refine ⟨_, rfl, ?_⟩) | ((with_reducible refine gate_callee (f := 92) rfl ?_); refine goesL_ (some 15) rfl rfl Try.func92 (by kernel_rfl) rfl #[.slice A0_1 l0_1.length c0_1, .slice A1_1 l1_1.length c1_1] rfl (by (try simp only [List.map_toArray, List.map_cons, List.map_nil]); first | done | rfl | (simp only [List.length_drop, List.length_take]; rfl)) ?_; (with_reducible refine (laws_eqPendS.calls k _ _ l0_1 _ _ l1_1 false _ ?side1 ?side2 ?side3 ?side4 A5.out).mono ?_); (case side1 => repeat (first | exact (Kd.C_below HR0_1.out (by repeat (first | (with_reducible first | exact HB.out | apply below_alloc | apply pw_below_drewN | apply below_drew1 | refine below_set ?_ GE416.out | refine below_set ?_ GE417.out) | exact HB.out))) | (with_reducible refine Kd.C_alloc ?_ _) | (with_reducible refine Kd.C_drewN ?_ _) | (with_reducible refine Kd.C_drew ?_))); (case side2 => exact HC0_1.out); (case side3 => repeat (first | exact (Kd.C_below HR1_1.out (by repeat (first | (with_reducible first | exact HB.out | apply below_alloc | apply pw_below_drewN | apply below_drew1 | refine below_set ?_ GE416.out | refine below_set ?_ GE417.out) | exact HB.out))) | (with_reducible refine Kd.C_alloc ?_ _) | (with_reducible refine Kd.C_drewN ?_ _) | (with_reducible refine Kd.C_drew ?_))); (case side4 => exact HC1_1.out); rintro e w18 ⟨rfl, hb⟩; refine ⟨_, rfl, ?_⟩; have n0_ := Aside0.mk (blk_below (g := gb416) (o := .cells #[.slice A0_0 l0_0.length c0_0, .slice A0_1 l0_1.length c0_1] 44 (0, 0)) (by (with_reducible repeat (first | refine blk_drewN ?_ _ | refine blk_drew ?_ | refine blk_alloc ?_ _)); exact BK416.out) hb); have n1_ := Aside0.mk (blk_below (g := gb417) (o := .cells #[.slice A1_0 l1_0.length c1_0, .slice A1_1 l1_1.length c1_1] 44 (0, 0)) (by (with_reducible repeat (first | refine blk_drewN ?_ _ | refine blk_drew ?_ | refine blk_alloc ?_ _)); exact BK417.out) hb); have n2_ := Aside0.mk (below_step (by repeat (first | (with_reducible first | exact HB.out | apply below_alloc | apply pw_below_drewN | apply below_drew1 | refine below_set ?_ GE416.out | refine below_set ?_ GE417.out) | exact HB.out)) hb); clear BK416; clear BK417; clear HB; have BK416 := n0_; have BK417 := n1_; have HB := n2_; clear n0_ n1_ n2_; (try clear hb); (try clear hb2); (try clear hk); (try clear hi)))
      go_ret
      exact ⟨by first | rfl | (simp [errW_none, errW_some] <;> rfl) | (simp [*, errW_none, errW_some] <;> rfl), by repeat (first | (with_reducible first | exact HB.out | apply below_alloc | apply pw_below_drewN | apply below_drew1 | refine below_set ?_ GE416.out | refine below_set ?_ GE417.out) | exact HB.out)⟩
  · replace c4 := Bool.eq_false_iff.mpr c4
    subst c4
    have H1 : (some false) = some r := by rw [if_neg (show ¬ (false = true) by decide)] at H; exact H
    clear H
    have H := H1
    clear H1
    obtain rfl := Option.some.inj H
    go_enter Try.func28, Try.ntmps28
    go_wp2_with (first | ((with_reducible refine gate_dst (N := 2) rfl ?_); refine box_event ?hg (N := 2) ?hd (cs := #[.slice A0_0 l0_0.length c0_0, .slice A0_1 l0_1.length c0_1]) (t := 44) ?hr ?_; (case hd => rfl); (case hg => rfl); (case hr => first | (go_simp; done) | (go_simp; rfl)); intro gb416 hg w19 hbox hb; have n0_ := Aside0.mk (below_step (by repeat (first | (with_reducible first | exact HB.out | apply below_alloc | apply pw_below_drewN | apply below_drew1) | exact HB.out)) hb); have n1_ := Aside0.mk (hbox); have n2_ := Aside0.mk ((by rw [hg]; exact (below_size (by repeat (first | (with_reducible first | exact HB.out | apply below_alloc | apply pw_below_drewN | apply below_drew1) | exact HB.out))) : w.heap.size ≤ gb416)); have n3_ := Aside0.mk ((by rw [hg]; exact (below_size (by repeat (first | (with_reducible first | exact HB.out | apply below_alloc | apply pw_below_drewN | apply below_drew1) | exact HB.out))) : w.heap.size ≤ gb416)); clear HB; have HB := n0_; have BK416 := n1_; have GW416 := n2_; have GE416 := n3_; clear n0_ n1_ n2_ n3_; clear hb hbox hg) | ((with_reducible refine gate_dst (N := 3) rfl ?_); refine box_event ?hg (N := 3) ?hd (cs := #[.slice A1_0 l1_0.length c1_0, .slice A1_1 l1_1.length c1_1]) (t := 44) ?hr ?_; (case hd => rfl); (case hg => rfl); (case hr => first | (go_simp; done) | (go_simp; rfl)); intro gb417 hg w20 hbox hb; have n0_ := Aside0.mk (blk_below (g := gb416) (o := .cells #[.slice A0_0 l0_0.length c0_0, .slice A0_1 l0_1.length c0_1] 44 (0, 0)) (by (with_reducible repeat (first | refine blk_drewN ?_ _ | refine blk_drew ?_ | refine blk_alloc ?_ _)); exact BK416.out) hb); have n1_ := Aside0.mk (below_step (by repeat (first | (with_reducible first | exact HB.out | apply below_alloc | apply pw_below_drewN | apply below_drew1 | refine below_set ?_ GE416.out) | exact HB.out)) hb); have n2_ := Aside0.mk (hbox); have n3_ := Aside0.mk ((by rw [hg]; exact (below_size (by repeat (first | (with_reducible first | exact HB.out | apply below_alloc | apply pw_below_drewN | apply below_drew1 | refine below_set ?_ GE416.out) | exact HB.out))) : w.heap.size ≤ gb417)); have n4_ := Aside0.mk ((by rw [hg]; exact (below_size (by repeat (first | (with_reducible first | exact HB.out | apply below_alloc | apply pw_below_drewN | apply below_drew1 | refine below_set ?_ GE416.out) | exact HB.out))) : w.heap.size ≤ gb417)); have n5_ := Aside0.mk ((by rw [hg]; exact Nat.ne_of_lt (blk_lt (g := gb416) (o := .cells #[.slice A0_0 l0_0.length c0_0, .slice A0_1 l0_1.length c0_1] 44 (0, 0)) (by (with_reducible repeat (first | refine blk_drewN ?_ _ | refine blk_drew ?_ | refine blk_alloc ?_ _)); exact BK416.out)) : gb416 ≠ gb417)); have n6_ := Aside0.mk ((by rw [hg]; exact Nat.ne_of_gt (blk_lt (g := gb416) (o := .cells #[.slice A0_0 l0_0.length c0_0, .slice A0_1 l0_1.length c0_1] 44 (0, 0)) (by (with_reducible repeat (first | refine blk_drewN ?_ _ | refine blk_drew ?_ | refine blk_alloc ?_ _)); exact BK416.out)) : gb417 ≠ gb416)); clear BK416; clear HB; have BK416 := n0_; have HB := n1_; have BK417 := n2_; have GW417 := n3_; have GE417 := n4_; have NB416_417 := n5_; have NB417_416 := n6_; clear n0_ n1_ n2_ n3_ n4_ n5_ n6_; clear hb hbox hg; have hnb21 := NB416_417.out; have hnc21 := NB417_416.out; have hcz22_0 : w20.cell? ⟨gb416, 0, none⟩ = some (.slice A0_0 l0_0.length c0_0) := (blk_cell BK416.out 0).trans rfl; have hcz22_1 : w20.cell? ⟨gb416, 1, none⟩ = some (.slice A0_1 l0_1.length c0_1) := (blk_cell BK416.out 1).trans rfl; have hfz22_0 := blk_frozen BK416.out 0; have hfz22_1 := blk_frozen BK416.out 1; have hcz23_0 : w20.cell? ⟨gb417, 0, none⟩ = some (.slice A1_0 l1_0.length c1_0) := (blk_cell BK417.out 0).trans rfl; have hcz23_1 : w20.cell? ⟨gb417, 1, none⟩ = some (.slice A1_1 l1_1.length c1_1) := (blk_cell BK417.out 1).trans rfl; have hfz23_0 := blk_frozen BK417.out 0; have hfz23_1 := blk_frozen BK417.out 1) | ((with_reducible refine gate_callee (f := 91) rfl ?_); refine goesL_ (some 9) rfl rfl Try.func91 (by kernel_rfl) rfl #[.slice A0_0 l0_0.length c0_0, .slice A1_0 l1_0.length c1_0] rfl (by (try simp only [List.map_toArray, List.map_cons, List.map_nil]); first | done | rfl | (simp only [List.length_drop, List.length_take]; rfl)) ?_; (with_reducible refine (laws_eqByteSS.calls k _ _ l0_0 _ _ l1_0 false _ ?side1 ?side2 ?side3 ?side4 A3.out).mono ?_); (case side1 => repeat (first | exact (Kd.C_below HR0_0.out HB.out) | (with_reducible refine Kd.C_alloc ?_ _) | (with_reducible refine Kd.C_drewN ?_ _) | (with_reducible refine Kd.C_drew ?_))); (case side2 => exact HC0_0.out); (case side3 => repeat (first | exact (Kd.C_below HR1_0.out HB.out) | (with_reducible refine Kd.C_alloc ?_ _) | (with_reducible refine Kd.C_drewN ?_ _) | (with_reducible refine Kd.C_drew ?_))); (case side4 => exact HC1_0.out); rintro e w' ⟨rfl, ⟨nd, rfl⟩⟩; refine ⟨_, rfl, ?_⟩))
    go_ret
    exact ⟨by first | rfl | (simp [errW_none, errW_some] <;> rfl) | (simp [*, errW_none, errW_some] <;> rfl), by repeat (first | (with_reducible first | exact HB.out | apply below_alloc | apply pw_below_drewN | apply below_drew1 | refine below_set ?_ GE416.out | refine below_set ?_ GE417.out) | exact HB.out)⟩

end Go.Proofs.Ytlopmffdebhpfaa.G

/-! ## DiskP -/
namespace Go.Proofs.Ytlopmffdebhpfaa.Pure
open Go.RowKit Go.Proofs.Ytlopmffdebhpfaa.G Go.Proofs.YtlopmffdebhpfaaW.PrintWords Go.Proofs.YtlopmffdebhpfaaW.PrintLast Go.Proofs.YtlopmffdebhpfaaW.PrintMore

theorem Cv.step {α : Type} {f g : Nat → Option α} {v : α} (hs : ∀ k, g (k + 1) = f k) (h : Cv f v) : Cv g v := Cv.succ h hs
theorem getD_mid {α : Type} (pre r : List α) (x z : α) : (pre ++ x :: r).getD ((pre.length : Int)).toNat z = x := by
  rw [Int.toNat_natCast, List.getD_eq_getElem?_getD, List.getElem?_append_right (Nat.le_refl _), Nat.sub_self]
  rfl
theorem mid_len {α : Type} (pre r : List α) (x : α) : ((pre ++ x :: r).length : Int) = pre.length + r.length + 1 := by simp; omega
theorem snoc_len {α : Type} (pre : List α) (x : α) : (((pre ++ [x]).length : Nat) : Int) = (pre.length : Int) + 1 := by simp
theorem mid_snoc {α : Type} (pre r : List α) (x : α) : pre ++ x :: r = (pre ++ [x]) ++ r := by simp
/-! ### sizes -/
/-! ### comparisons -/
theorem eqSS_l0 : ∀ (r pre : List (List Int)), (∀ l ∈ r, l.length ≤ 9223372036854775806) → (pre ++ r).length ≤ 9223372036854775806 → Cv (fun k => laws_eqByteSS.l0 k (pre ++ r) (pre ++ r) (pre.length : Int)) true
  | [], pre, h, hm => Cv.step (fun k => laws_eqByteSS.l0.eq_2 _ _ _ k) (Cv.neg (by simp) (Cv.of rfl))
  | x :: r, pre, h, hm => by
    have h1 := mid_len pre r x
    refine Cv.step (fun k => laws_eqByteSS.l0.eq_2 _ _ _ k) (Cv.pos (by omega) (Cv.pos (by omega) (Cv.pos (by omega) ?_)))
    rw [show rd_L2 (pre ++ x :: r) (pre.length : Int) = x from getD_mid _ _ _ _]
    refine Cv.bind (eqB (h x List.mem_cons_self)) (Cv.pos (decide_eq_true rfl) ?_)
    rw [w64 (by omega) (by omega), mid_snoc, ← snoc_len pre x]
    exact eqSS_l0 r (pre ++ [x]) (fun l hl => h l (List.mem_cons_of_mem _ hl)) (by simpa using hm)
theorem eqPS_l0 : ∀ (r pre : List S185), (∀ l ∈ r, l.f1.length ≤ 9223372036854775806) → (pre ++ r).length ≤ 9223372036854775806 → Cv (fun k => laws_eqPendS.l0 k (pre ++ r) (pre ++ r) (pre.length : Int)) true
  | [], pre, h, hm => Cv.step (fun k => laws_eqPendS.l0.eq_2 _ _ _ k) (Cv.neg (by simp) (Cv.of rfl))
  | x :: r, pre, h, hm => by
    have h1 := mid_len pre r x
    refine Cv.step (fun k => laws_eqPendS.l0.eq_2 _ _ _ k) (Cv.pos (by omega) (Cv.pos (by omega) (Cv.pos (by omega) ?_)))
    rw [show rd_T185 (pre ++ x :: r) (pre.length : Int) = x from getD_mid _ _ _ _]
    refine Cv.bind (v := true) ?_ (Cv.pos rfl ?_)
    · unfold laws_eqPend.f
      exact Cv.pos rfl (Cv.bind (eqB (h x List.mem_cons_self)) (Cv.pos (decide_eq_true rfl) (Cv.of rfl)))
    rw [w64 (by omega) (by omega), mid_snoc, ← snoc_len pre x]
    exact eqPS_l0 r (pre ++ [x]) (fun l hl => h l (List.mem_cons_of_mem _ hl)) (by simpa using hm)
theorem eqD {ls : List (List Int)} {ps : List S185} (h : ∀ l ∈ ls, l.length ≤ 9223372036854775806) (hm : ls.length ≤ 9223372036854775806) (h' : ∀ l ∈ ps, l.f1.length ≤ 9223372036854775806) (hm' : ps.length ≤ 9223372036854775806) : Cv (fun k => laws_eqDisk.f k ls ps ls ps) true := by
  unfold laws_eqDisk.f
  refine Cv.bind (v := true) ?_ (Cv.pos rfl (Cv.bind (v := true) ?_ (Cv.pos rfl (Cv.of rfl))))
  · unfold laws_eqByteSS.f
    exact Cv.pos rfl (eqSS_l0 ls [] h (by simpa using hm))
  · unfold laws_eqPendS.f
    exact Cv.pos rfl (eqPS_l0 ps [] h' (by simpa using hm'))

/-! ### valid disks -/
def okP (n : Nat) (p : S185) : Prop := 0 ≤ p.f0 ∧ p.f0 < (n : Int) ∧ p.f1.length = 64
instance (n : Nat) (p : S185) : Decidable (okP n p) := by unfold okP; exact inferInstance
def okDisk (safe : List (List Int)) (ps : List S185) : Prop := 1 ≤ safe.length ∧ safe.length ≤ 4096 ∧ ps.length ≤ 5000 ∧ (∀ l ∈ safe, l.length = 64) ∧ ∀ p ∈ ps, okP safe.length p
instance (safe : List (List Int)) (ps : List S185) : Decidable (okDisk safe ps) := by unfold okDisk; exact inferInstance
theorem spec_ok_l1 (safe : List (List Int)) : ∀ (r pre : List S185), (pre ++ r).length ≤ 9223372036854775806 → Cv (fun k => spec_DiskOk.l1 k (safe.length : Int) (pre.length : Int) safe (pre ++ r)) (decide (∀ p ∈ r, okP safe.length p))
  | [], pre, hm => Cv.step (fun k => spec_DiskOk.l1.eq_2 _ _ _ _ k) (Cv.neg (by simp) (Cv.of (by simp)))
  | x :: r, pre, hm => by
    have h1 := mid_len pre r x
    refine Cv.step (fun k => spec_DiskOk.l1.eq_2 _ _ _ _ k) (Cv.pos (by omega) (Cv.pos (by omega) ?_))
    rw [show rd_T185 (pre ++ x :: r) (pre.length : Int) = x from getD_mid _ _ _ _]
    by_cases h : okP safe.length x
    · have hh := h
      unfold okP at hh
      refine Cv.neg (by omega) (Cv.neg (by omega) (Cv.pos (by omega) ?_))
      have ih := spec_ok_l1 safe r (pre ++ [x]) (by simpa using hm)
      rw [← mid_snoc, snoc_len] at ih
      rw [w64 (by omega) (by omega)]
      have e : decide (∀ p ∈ x :: r, okP safe.length p) = decide (∀ p ∈ r, okP safe.length p) := by simp [h]
      rw [e]
      exact ih
    · rw [decide_eq_false (fun hall => h (hall x List.mem_cons_self))]
      unfold okP at h
      by_cases g1 : x.f0 < 0
      · exact Cv.pos g1 (Cv.of rfl)
      · by_cases g2 : x.f0 ≥ (safe.length : Int)
        · exact Cv.neg g1 (Cv.pos g2 (Cv.of rfl))
        · exact Cv.neg g1 (Cv.neg g2 (Cv.neg (by omega) (Cv.of rfl)))
theorem spec_ok_l0 (ps : List S185) (hp : ps.length ≤ 9223372036854775806) : ∀ (r pre : List (List Int)), (pre ++ r).length ≤ 9223372036854775806 → Cv (fun k => spec_DiskOk.l0 k ((pre ++ r).length : Int) (pre.length : Int) (pre ++ r) ps) (decide ((∀ l ∈ r, l.length = 64) ∧ ∀ p ∈ ps, okP (pre ++ r).length p))
  | [], pre, hm => by
    refine Cv.step (fun k => spec_DiskOk.l0.eq_2 _ _ _ _ k) (Cv.neg (by simp) ?_)
    have h := spec_ok_l1 (pre ++ []) ps [] (by simpa using hp)
    simpa using h
  | x :: r, pre, hm => by
    have h1 := mid_len pre r x
    refine Cv.step (fun k => spec_DiskOk.l0.eq_2 _ _ _ _ k) (Cv.pos (by omega) (Cv.pos (by omega) (Cv.pos (by omega) ?_)))
    rw [show rd_L2 (pre ++ x :: r) (pre.length : Int) = x from getD_mid _ _ _ _]
    by_cases h : x.length = 64
    · refine Cv.pos (by omega) ?_
      have ih := spec_ok_l0 ps hp r (pre ++ [x]) (by simpa using hm)
      rw [← mid_snoc, snoc_len] at ih
      rw [w64 (by omega) (by omega)]
      have e : decide ((∀ l ∈ x :: r, l.length = 64) ∧ ∀ p ∈ ps, okP (pre ++ x :: r).length p) = decide ((∀ l ∈ r, l.length = 64) ∧ ∀ p ∈ ps, okP (pre ++ x :: r).length p) := by simp [h]
      rw [e]
      exact ih
    · rw [decide_eq_false (fun hall => h (hall.1 x List.mem_cons_self))]
      exact Cv.neg (by omega) (Cv.of rfl)
theorem spec_ok {safe : List (List Int)} {ps : List S185} : Cv (fun k => spec_DiskOk.f k safe ps) (decide (okDisk safe ps)) := by
  have hj : ∀ (c : Bool), c = true → Cv (fun k => spec_DiskOk.j0 k (safe.length : Int) c safe ps) false := fun c hc => Cv.step (fun k => spec_DiskOk.j0.eq_2 _ _ _ _ k) (Cv.pos hc (Cv.of rfl))
  unfold spec_DiskOk.f
  by_cases h1 : (safe.length : Int) < 1
  · rw [decide_eq_false (p := okDisk safe ps) (fun h => by unfold okDisk at h; omega)]
    exact Cv.pos h1 (hj _ rfl)
  refine Cv.neg h1 ?_
  by_cases h2 : (safe.length : Int) > 4096
  · rw [decide_eq_false (p := okDisk safe ps) (fun h => by unfold okDisk at h; omega)]
    exact Cv.pos h2 (hj _ rfl)
  refine Cv.neg h2 ?_
  by_cases h3 : (ps.length : Int) > 5000
  · rw [decide_eq_false (p := okDisk safe ps) (fun h => by unfold okDisk at h; omega)]
    exact hj _ (decide_eq_true h3)
  · rw [show decide ((ps.length : Int) > 5000) = false from decide_eq_false h3]
    refine Cv.step (fun k => spec_DiskOk.j0.eq_2 _ _ _ _ k) (Cv.neg (by decide) ?_)
    have h := spec_ok_l0 ps (by omega) safe [] (by simp; omega)
    have e : decide (okDisk safe ps) = decide ((∀ l ∈ safe, l.length = 64) ∧ ∀ p ∈ ps, okP safe.length p) := by
      have g1 : 1 ≤ safe.length := by omega
      have g2 : safe.length ≤ 4096 := by omega
      have g3 : ps.length ≤ 5000 := by omega
      unfold okDisk
      simp [g1, g2, g3]
    rw [e]
    exact h

/-! ### what sectors hold now -/
/-! ### ReadSector -/
end Go.Proofs.Ytlopmffdebhpfaa.Pure

/-! ## DiskL -/
namespace Go.Proofs.Ytlopmffdebhpfaa.G
open Go.RowKit Go.Proofs.YtlopmffdebhpfaaW.PrintWords Go.Proofs.YtlopmffdebhpfaaW.PrintLast Go.Proofs.YtlopmffdebhpfaaW.PrintMore
set_option linter.unusedVariables false
section
variable {α : Type} {d : Kd α} {w w1 : World} {base e g t : Nat} {cs : Array Value} {ok : Nat → Prop} {v : Value} {xs : List α}
theorem S_off (h : Kd.S d e w base ok v xs) (hb : w.heap[g]? = some (.cells cs t (0, 0))) (ht : ∀ q, q ∈ e :: d.E → q ≠ t) (hg : w.grownBy w1 (some g)) : Kd.S d e w1 base ok v xs :=
  Kd.S_mono (Kd.S_grown (Kd.S_types h hb ht) hg (fun q hq he => hq.2 (Option.some.inj he))) (fun _ hq => hq.1)
/-- A block that is told to be none of the row's. -/
theorem S_offB (h : Kd.S d e w base (fun q => ok q ∧ q ≠ g) v xs) (hg : w.grownBy w1 (some g)) : Kd.S d e w1 base ok v xs :=
  Kd.S_mono (Kd.S_grown h hg (fun q hq he => hq.2 (Option.some.inj he))) (fun _ hq => hq.1)
end
/-- An empty row's one block. -/
theorem S_nil_own {α : Type} {d : Kd α} {w : World} {base e : Nat} {ok : Nat → Prop} {v : Value} (h : Kd.S d e w base ok v []) : Kd.S d e w base (fun k => some k = v.ownBlock) v [] := by
  obtain ⟨f, h0, inner, ho, hr⟩ := h
  exact ⟨f, fun k hk => hk.symm, inner, ho, hr.1, fun j p hj => by simp at hj⟩
theorem take_snoc {α : Type} {xs : List α} {z : α} {x : Int} (h0 : 0 ≤ x) (h1 : x < (xs.length : Int)) : xs.take (x + 1).toNat = xs.take x.toNat ++ [xs.getD x.toNat z] := by
  have hq : x.toNat < xs.length := by omega
  rw [show (x + 1).toNat = x.toNat + 1 by omega, List.take_add_one, List.getElem?_eq_getElem hq, List.getD_eq_getElem?_getD, List.getElem?_eq_getElem hq]
  rfl
theorem getD_mem {α : Type} {xs : List α} {z : α} {x : Int} (h0 : 0 ≤ x) (h1 : x < (xs.length : Int)) : xs.getD x.toNat z ∈ xs := by
  have hq : x.toNat < xs.length := by omega
  rw [List.getD_eq_getElem?_getD, List.getElem?_eq_getElem hq]
  exact List.getElem_mem hq
end Go.Proofs.Ytlopmffdebhpfaa.G

/-! ## DoL -/
namespace Go.Proofs.Ytlopmffdebhpfaa.G
open Go.RowKit Go.Proofs.YtlopmffdebhpfaaW.PrintWords Go.Proofs.YtlopmffdebhpfaaW.PrintLast Go.Proofs.YtlopmffdebhpfaaW.PrintMore
set_option linter.unusedVariables false
/-- What a sync leaves in the sectors. -/
def syncL (safe : List (List Int)) (ps : List S185) : List (List Int) := ps.foldl (fun s p => s.set p.f0.toNat p.f1) safe
theorem syncL_length : ∀ (ps : List S185) (safe : List (List Int)), (syncL safe ps).length = safe.length
  | [], _ => rfl
  | p :: r, safe => by
    have := syncL_length r (safe.set p.f0.toNat p.f1)
    rw [List.length_set] at this
    exact this
theorem syncL_snoc (safe : List (List Int)) (ps : List S185) (p : S185) : syncL safe (ps ++ [p]) = (syncL safe ps).set p.f0.toNat p.f1 := by
  unfold syncL
  rw [List.foldl_append]
  rfl
/-- What an op does to a valid disk, and whether it can be done. -/
def doV (safe : List (List Int)) (ps : List S185) (kind at_ : Int) (data : List Int) : (List (List Int) × List S185) × Bool :=
  if kind = 1 then (if at_ < 0 then ((safe, ps), false) else if (safe.length : Int) ≤ at_ then ((safe, ps), false) else if data.length = 64 then (if 5000 ≤ ps.length then ((safe, ps), false) else ((safe, ps ++ [⟨at_, data⟩]), true)) else ((safe, ps), false))
  else if kind = 2 then (if at_ = 0 then (if data.length = 0 then ((syncL safe ps, []), true) else ((safe, ps), false)) else ((safe, ps), false)) else ((safe, ps), false)
/-- A device g, with the map b, over a disk of the call's own. -/
def DevOk (w : World) (base g b : Nat) (safe : List (List Int)) (ps : List S185) : Prop :=
  ∃ A0 c0 A1 c1 P Q, IsDev w g b A0 safe.length c0 A1 ps.length c1 ∧ IsDisk w base P Q (.slice A0 safe.length c0) (.slice A1 ps.length c1) safe ps ∧ LMap w b ps.length (lastM ps) ∧ g ≠ b ∧ base ≤ g ∧ base ≤ b
section
variable {w w0 w1 : World} {g b base n n0 n1 c0 c1 j : Nat} {A0 A1 : Option Addr} {P Q : Nat → Prop} {safe : List (List Int)} {ps : List S185} {v0 v1 u : Value} {m : Int → Option Int}
theorem D_set {cs : Array Value} {t : Nat} (h : IsDisk w base P Q v0 v1 safe ps) (hb : w.heap[g]? = some (.cells cs t (0, 0))) (ht : (∀ q, q ∈ [22, 5] → q ≠ t) ∧ ∀ q, q ∈ [185, 5] → q ≠ t) : IsDisk (w.setCell ⟨g, j, none⟩ u) base P Q v0 v1 safe ps :=
  ⟨h.1, Kd.S_set h.2.1 hb ht.1 j u, Kd.S_set h.2.2 hb ht.2 j u⟩
theorem LMap_set (h : LMap w b n m) (hgb : g ≠ b) : LMap (w.setCell ⟨g, j, none⟩ u) b n m := LMap_step h (Below.heap_setCell _ _ _ _ (Ne.symm hgb))
theorem dev_unlock (hb : w.heap[g]? = some (.cells #[.int .i32 1, .int .u32 0, .slice A0 safe.length c0, .slice A1 ps.length c1, .map (some b)] 159 (0, 0))) (hd : IsDisk w w0.heap.size P Q (.slice A0 safe.length c0) (.slice A1 ps.length c1) safe ps) (hl : LMap w b ps.length (lastM ps)) (hgb : g ≠ b) (hg : w0.heap.size ≤ g) (hbb : w0.heap.size ≤ b) (hB : Below w0.heap.size w0 w)
    (hw : w1 = w.setCell ⟨g, 0, none⟩ (.int .i32 0)) : DevOk w1 w0.heap.size g b safe ps ∧ Below w0.heap.size w0 w1 := by
  subst hw
  exact ⟨⟨A0, c0, A1, c1, P, Q, blk_put hb 0 _ rfl, D_set hd hb (by decide), LMap_set hl hgb, hgb, hg, hbb⟩, below_set hB hg⟩
theorem S_map {α : Type} {d : Kd α} {e : Nat} {ok : Nat → Prop} {v : Value} {xs : List α} (h : Kd.S d e w base ok v xs) (hl : LMap w b n m) (hg : w.grownBy w1 (some b)) : Kd.S d e w1 base ok v xs :=
  Kd.S_mono (Kd.S_grown (Kd.S_bound h) hg (fun q hq he => by
    obtain ⟨_, _, _, _, _, cells, hc⟩ := hq
    obtain ⟨D, ⟨es, clock, h1, _⟩, _⟩ := hl
    rw [Option.some.inj he, h1] at hc
    cases hc)) (fun _ hq => hq.1)
theorem LMap_ne {cs : Array Value} {t : Nat} (hl : LMap w b n m) (hb : w.heap[g]? = some (.cells cs t (0, 0))) : g ≠ b := fun e => by
  obtain ⟨D, ⟨es, clock, h1, _⟩, _⟩ := hl
  rw [e, h1] at hb
  cases hb
theorem LMap_own {α : Type} {d : Kd α} {e : Nat} {ok : Nat → Prop} {v : Value} {xs : List α} (hl : LMap w b n m) (h : Kd.S d e w base ok v xs) : some b ≠ v.ownBlock := fun he => by
  obtain ⟨cells, hc⟩ := Kd.S_typed h b he.symm
  exact LMap_ne hl hc rfl
end
/-- A function that defers: where it dies, its other slots do not matter. -/
theorem leaves_tmps {P : Program} {fn : Func} {R : Ending → World → Prop} {t1 t2 : Array Value} (hr : ∀ w, (results fn t1).run P w = (results fn t2).run P w) : ∀ (ds : List Deferred) (u : FrameMode) (w : World), Leaves P fn t1 R ds u w → Leaves P fn t2 R ds u w
  | [], .returning, w, h => by
    obtain ⟨v, h1, h2⟩ := h
    exact ⟨v, (hr w).symm.trans h1, h2⟩
  | [], .panicking _, w, h => h
  | [], .run, w, h => h
  | d :: ds, u, w, h => by
    obtain ⟨hu, fv, cap, f, args, h1, h2, h3⟩ := h
    refine ⟨hu, fv, cap, f, args, h1, h2, fun c cs hc => ?_⟩
    obtain ⟨e, u', w', fr, hR, hx⟩ := h3 c cs hc
    refine ⟨e, u', w', fr, ?_, hx⟩
    cases e with
    | returned v => exact leaves_tmps hr ds _ _ hR
    | panicked chain => exact leaves_tmps hr ds _ _ hR
    | outgrown => exact hR
theorem keep_defer {P : Program} {fn : Func} {R : Ending → World → Prop} {t N : Tmp} (hf : fn.results = #[.tmp t]) (hN : N ≠ t) {c : List PanicEntry} {a : Act} {v : Value} {w : World} (h : bodyPostD P fn R (.panic c) (a.put (some N) v) w) : bodyPostD P fn R (.panic c) a w :=
  leaves_tmps (fun w => by
    rw [results_tmp hf, results_tmp hf]
    congr 1
    simp [Act.put, Array.getD_eq_getD_getElem?, Array.getElem?_setIfInBounds_ne hN]) _ _ _ h
section
variable {P : Program} {ops : Array Oper} {o : Oper} {a : Act} {Q : Exit → Act → World → Prop}
/-- out[i] = x, a row of numbers whose blocks are none of out's; in a region that draws its order. -/
theorem S_put_step {W : World} {K : Act → World → Prop} {base g n cap : Nat} (hw : Region.wanted o (yielded ops a.tmps) = true) (hN : o.dst = none) (t : TypeId) (p x : Operand) (ho : o.op = .store t p x) (i : Int) (xs : List (List Int)) (x' : List Int) (u : Value) (okS okg : Nat → Prop) (hp : a.eval p = .pointer (some ⟨g, i.toNat, none⟩)) (hx : a.eval x = u) (hu : u.cells.toList = [u])
    (ht : (P.info? t).map (·.size) = some 1) (h1u : u.oneCell' = true) (HS : Kd.S (Kd.slice 5 (Kd.int .u8)) 22 W base okS (.slice (some ⟨g, 0, none⟩) n cap) xs) (h0 : 0 ≤ i) (h1 : i < n) (hM : Kd.R (Kd.int .u8) 5 W base okg u x') (hdis : ∀ k, okg k → ¬ okS k)
    (h : ∀ w1, Kd.S (Kd.slice 5 (Kd.int .u8)) 22 w1 base (fun k => okS k ∨ okg k) (.slice (some ⟨g, 0, none⟩) n cap) (xs.set i.toNat x') → W.grownBy w1 (some g) → K a w1) : if Region.wanted o (yielded ops a.tmps) = true then Oper.wp P o a W K Q else K (a.put none undef) W := by
  obtain ⟨inner, hown⟩ := Kd.S_own HS
  have hgS : okS g := by
    obtain ⟨f, hR⟩ := HS
    exact hR.1 g (by simp [Value.ownBlock])
  have hnx : n = xs.length := (Kd.S_reads' HS).1
  have HS2 : Kd.S (Kd.slice 5 (Kd.int .u8)) 22 W base (fun k => (okS k ∨ okg k) ∧ ¬ okg k) (.slice (some ⟨g, 0, none⟩) n cap) xs := Kd.S_mono HS (fun k hk => ⟨.inl hk, fun h2 => hdis k h2 hk⟩)
  obtain ⟨oki, c, hcl, _, _, _, _, hH⟩ := Kd.S_elem HS2 [] i h0 (by omega)
  have hc1 : c.length = 1 := hcl
  have hseg : c.take 0 ++ [u] ++ c.drop (0 + [u].length) = [u] := by
    rw [List.drop_of_length_le (by simp; omega)]
    rfl
  obtain ⟨hS, hg⟩ := Kd.S_seg (okg := okg) (okp := okg) hH h0 (by omega) (seg := [u]) (j := 0) (x' := x') (Nat.le_refl _) (by rw [hseg]; exact Kd.M_row hM) (fun k hk => .inr hk) (fun k hk => ⟨.inr hk, fun e => hdis k hk (by rw [e]; exact hgS)⟩)
  have hrun : (Instr.storeAt t (.pointer (some ⟨g, i.toNat, none⟩)) u).run P W = .ok () (W.setCells g (i.toNat * 1 + 0) [u]) := by
    rw [Nat.mul_one, Nat.add_zero]
    rcases hown.2 with ⟨hv, _⟩ | ⟨g', cap', cur, hv, hb, hh, hnc, hcm, hcs, _⟩
    · cases hv
    injection hv with ha _ hc
    injection ha with ha
    injection ha with hg'
    subst hg'; subst hc
    refine run_store_run t u [u] hh hu ht ?_ (fun q hq => by rw [List.mem_singleton.1 hq]; exact h1u)
    have hcs' : cur.size = cap * 1 := hcs
    show i.toNat + 1 ≤ cur.size
    omega
  rw [if_pos hw]
  unfold Oper.wp execOp
  simp only [ho, hp, hx, Sem.run_bind, Sem.run_pure, Result.andThen_ok, hrun]
  show K (a.put o.dst undef) _
  rw [hN]
  exact h _ hS hg
end
end Go.Proofs.Ytlopmffdebhpfaa.G

/-! ## Do -/
namespace Go.Proofs.Ytlopmffdebhpfaa.G
open Go.RowKit Go.Proofs.YtlopmffdebhpfaaW.PrintWords Go.Proofs.YtlopmffdebhpfaaW.PrintLast Go.Proofs.YtlopmffdebhpfaaW.PrintMore
set_option linter.unusedVariables false
set_option linter.unusedSimpArgs false
end Go.Proofs.Ytlopmffdebhpfaa.G

/-! ## L1Do -/
namespace Go.Proofs.Ytlopmffdebhpfaa.G
open Go.RowKit Go.Proofs.YtlopmffdebhpfaaW.PrintWords Go.Proofs.YtlopmffdebhpfaaW.PrintLast Go.Proofs.YtlopmffdebhpfaaW.PrintMore
set_option linter.unusedVariables false
set_option linter.unusedSimpArgs false

/-- Block g is a disk variable with a disk of the call's own. -/
def DskOk (w : World) (base g : Nat) (safe : List (List Int)) (ps : List S185) : Prop :=
  ∃ A0 c0 A1 c1 P Q, w.heap[g]? = some (.cells #[.slice A0 safe.length c0, .slice A1 ps.length c1] 44 (0, 0)) ∧ IsDisk w base P Q (.slice A0 safe.length c0) (.slice A1 ps.length c1) safe ps ∧ base ≤ g
def spec_l1Do.T7 : Bool × List (List Nat × List Nat) := (true, [([], []), ([0], [0]), ([1], [1]), ([2], [2]), ([], []), ([4], [4]), ([5], [5]), ([6], [6]), ([], []), ([7, 8], [7, 8]), ([9], [9]), ([10], [10]), ([], []), ([12], [12]), ([13], [13]), ([14], [14]), ([], []), ([15, 16], [15, 16]), ([17], [17]), ([18], [18]), ([3, 11, 0, 1, 2, 3, 4, 5, 6, 7, 8, 9, 10, 11, 12, 13, 14, 15, 16, 17, 18, 19], [3, 11]), ([20, 19, 0, 1, 2, 3, 4, 5, 6, 7, 8, 9, 10, 11, 12, 13, 14, 15, 16, 17, 18, 19], [19, 20])])
def spec_l1Do.B7 : List Nat := [0, 1, 3, 7, 0, 16, 48, 112, 0, 496, 1008, 2032, 0, 4096, 12288, 28672, 0, 126976, 258048, 520192, 1048575, 2097151]
theorem spec_l1Do.tab7 : rtab .any (opsOf Try.f108 7) = spec_l1Do.T7 := by kernel_rfl
theorem spec_l1Do.bits7 : waitsOk spec_l1Do.T7.2 spec_l1Do.B7 = true := by kernel_rfl
def spec_l1Do.T12 : Bool × List (List Nat × List Nat) := (true, [([], []), ([], []), ([1], [1]), ([2], [2]), ([3], [3]), ([], []), ([5], [5]), ([], []), ([7], [7]), ([8], [8]), ([6, 9], [6, 9]), ([10], [10]), ([4, 11, 9], [4, 11]), ([0, 0, 1, 2, 3, 4, 5, 6, 7, 8, 9, 10, 11, 12], [0]), ([13, 0, 1, 2, 3, 4, 5, 6, 7, 8, 9, 10, 11, 12], [13]), ([14, 12, 12, 0, 1, 2, 3, 4, 5, 6, 7, 8, 9, 10, 11, 12], [12, 14])])
def spec_l1Do.B12 : List Nat := [0, 0, 2, 6, 14, 0, 32, 0, 128, 384, 992, 2016, 4094, 8191, 16383, 32767]
theorem spec_l1Do.tab12 : rtab .any (opsOf Try.f108 12) = spec_l1Do.T12 := by kernel_rfl
theorem spec_l1Do.bits12 : waitsOk spec_l1Do.T12.2 spec_l1Do.B12 = true := by kernel_rfl
set_option maxHeartbeats 16000000 in
set_option maxRecDepth 100000 in
theorem spec_l1Do.calls (g : Nat) (safe : List (List Int)) (ps : List S185) (kind at_ : Int) (Ad : Option Addr) (cd : Nat) (data : List Int) (w0 w : World) (hD : DskOk w w0.heap.size g safe ps) (hB : Below w0.heap.size w0 w) (hr : Kd.C (Kd.int .u8) w0 Ad data.length data) (hc : data.length ≤ cd)
    (hps : ps.length ≤ 1048576) (hsl : safe.length ≤ 1048576) (hrg : ∀ p ∈ ps, 0 ≤ p.f0 ∧ p.f0 < (safe.length : Int)) :
    Calls Try.prog 108 #[.pointer (some ⟨g, 0, none⟩), .agg #[.int .i64 kind, .int .i64 at_, .slice Ad data.length cd]] w fun e w' => e = .returned (.bool (doV safe ps kind at_ data).2) ∧ DskOk w' w0.heap.size g (doV safe ps kind at_ data).1.1 (doV safe ps kind at_ data).1.2 ∧ Below w0.heap.size w0 w' := by
  have hu44 := Try.underlying44
  have hu63 := Try.underlying63
  have hu185 := Try.underlying185
  obtain ⟨⟨⟨sf, pf⟩, rf⟩, hdo⟩ : ∃ r, doV safe ps kind at_ data = r := ⟨_, rfl⟩
  rw [hdo]
  dsimp only
  obtain ⟨A0, c0, A1, c1, P, Q, hd, hdk, hg⟩ := hD
  have HDO := Aside0.mk hdo
  have HR := Aside0.mk hr
  have HC := Aside0.mk hc
  have HPS := Aside0.mk hps
  have HSL := Aside0.mk hsl
  have HRG := Aside0.mk hrg
  have HG := Aside0.mk hg
  have HB := Aside0.mk hB
  have HD := Aside0.mk hdk
  have BG := Aside0.mk hd
  clear hr hc hps hsl hrg hg hB hdk hd hdo
  go_enter Try.func108, Try.ntmps108
  have hdo := HDO.out
  unfold doV at hdo
  clear HDO
  by_cases k2 : kind = 2
  · rw [if_neg (show ¬ kind = 1 by omega), if_pos k2] at hdo
    have e2 : (kind == 2) = true := beq_iff_eq.mpr k2
    clear k2
    by_cases h0 : at_ = 0
    case neg =>
      rw [if_neg h0] at hdo
      have d0 : (at_ != 0) = true := bne_iff_ne.mpr h0
      have d1 : (at_ == 0) = false := beq_eq_false_iff_ne.mpr h0
      clear h0
      obtain ⟨⟨rfl, rfl⟩, rfl⟩ : (safe = sf ∧ ps = pf) ∧ false = rf := by simpa using hdo
      clear hdo
      go_wp2_with (first | ((with_reducible refine gate_dst (N := 3) rfl ?_); refine box_event ?hg (N := 3) ?hd (cs := #[.int .i64 kind, .int .i64 at_, .slice Ad data.length cd]) (t := 63) ?hr ?_; (case hd => rfl); (case hg => rfl); (case hr => first | (go_simp; done) | (go_simp; rfl)); intro g3 hgr w1 hbox hbel; have BP := Aside0.mk hbox; have BG := Aside0.mk (blk_below BG.out hbel); have HD := Aside0.mk (IsDisk_below HD.out hbel); have HB := Aside0.mk (below_step HB.out hbel); have cg0 : w1.cell? ⟨g, 0, none⟩ = some (.slice A0 safe.length c0) := (blk_cell BG.out 0).trans rfl; have cg1 : w1.cell? ⟨g, 1, none⟩ = some (.slice A1 ps.length c1) := (blk_cell BG.out 1).trans rfl; have cp0 : w1.cell? ⟨g3, 0, none⟩ = some (.int .i64 kind) := (blk_cell BP.out 0).trans rfl; have cp1 : w1.cell? ⟨g3, 1, none⟩ = some (.int .i64 at_) := (blk_cell BP.out 1).trans rfl; have cp2 : w1.cell? ⟨g3, 2, none⟩ = some (.slice Ad data.length cd) := (blk_cell BP.out 2).trans rfl; clear hbox hbel hgr))
      go_ret
      exact ⟨rfl, ⟨A0, c0, A1, c1, P, Q, BG.out, HD.out, HG.out⟩, HB.out⟩
    rw [if_pos h0] at hdo
    have d0 : (at_ != 0) = false := bne_eq_false_iff_eq.mpr h0
    have d1 : (at_ == 0) = true := beq_iff_eq.mpr h0
    clear h0
    by_cases h1 : data.length = 0
    case neg =>
      rw [if_neg h1] at hdo
      have d2 : ((data.length : Int) != 0) = true := bne_iff_ne.mpr (by omega)
      have d3 : ((data.length : Int) == 0) = false := beq_eq_false_iff_ne.mpr (by omega)
      clear h1
      obtain ⟨⟨rfl, rfl⟩, rfl⟩ : (safe = sf ∧ ps = pf) ∧ false = rf := by simpa using hdo
      clear hdo
      go_wp2_with (first | ((with_reducible refine gate_dst (N := 3) rfl ?_); refine box_event ?hg (N := 3) ?hd (cs := #[.int .i64 kind, .int .i64 at_, .slice Ad data.length cd]) (t := 63) ?hr ?_; (case hd => rfl); (case hg => rfl); (case hr => first | (go_simp; done) | (go_simp; rfl)); intro g3 hgr w1 hbox hbel; have BP := Aside0.mk hbox; have BG := Aside0.mk (blk_below BG.out hbel); have HD := Aside0.mk (IsDisk_below HD.out hbel); have HB := Aside0.mk (below_step HB.out hbel); have cg0 : w1.cell? ⟨g, 0, none⟩ = some (.slice A0 safe.length c0) := (blk_cell BG.out 0).trans rfl; have cg1 : w1.cell? ⟨g, 1, none⟩ = some (.slice A1 ps.length c1) := (blk_cell BG.out 1).trans rfl; have cp0 : w1.cell? ⟨g3, 0, none⟩ = some (.int .i64 kind) := (blk_cell BP.out 0).trans rfl; have cp1 : w1.cell? ⟨g3, 1, none⟩ = some (.int .i64 at_) := (blk_cell BP.out 1).trans rfl; have cp2 : w1.cell? ⟨g3, 2, none⟩ = some (.slice Ad data.length cd) := (blk_cell BP.out 2).trans rfl; clear hbox hbel hgr))
      go_ret
      exact ⟨rfl, ⟨A0, c0, A1, c1, P, Q, BG.out, HD.out, HG.out⟩, HB.out⟩
    rw [if_pos h1] at hdo
    have d2 : ((data.length : Int) != 0) = false := bne_eq_false_iff_eq.mpr (by omega)
    have d3 : ((data.length : Int) == 0) = true := beq_iff_eq.mpr (by omega)
    clear h1
    obtain ⟨⟨rfl, rfl⟩, rfl⟩ : (syncL safe ps = sf ∧ [] = pf) ∧ true = rf := by simpa using hdo
    clear hdo
    obtain ⟨f, HT0⟩ := HD.out.2.2
    have HT := Aside0.mk HT0
    have HS := Aside0.mk HD.out.2.1
    have HDJ := Aside0.mk HD.out.1
    clear HT0 HD
    go_wp2_with (first | ((with_reducible refine gate_dst (N := 3) rfl ?_); refine box_event ?hg (N := 3) ?hd (cs := #[.int .i64 kind, .int .i64 at_, .slice Ad data.length cd]) (t := 63) ?hr ?_; (case hd => rfl); (case hg => rfl); (case hr => first | (go_simp; done) | (go_simp; rfl)); intro g3 hgr w1 hbox hbel; have BP := Aside0.mk hbox; have BG := Aside0.mk (blk_below BG.out hbel); have HT := Aside0.mk (Kd.R_below HT.out hbel); have HS := Aside0.mk (Kd.S_below HS.out hbel); have HB := Aside0.mk (below_step HB.out hbel); have cg0 : w1.cell? ⟨g, 0, none⟩ = some (.slice A0 safe.length c0) := (blk_cell BG.out 0).trans rfl; have cg1 : w1.cell? ⟨g, 1, none⟩ = some (.slice A1 ps.length c1) := (blk_cell BG.out 1).trans rfl; have cp0 : w1.cell? ⟨g3, 0, none⟩ = some (.int .i64 kind) := (blk_cell BP.out 0).trans rfl; have cp1 : w1.cell? ⟨g3, 1, none⟩ = some (.int .i64 at_) := (blk_cell BP.out 1).trans rfl; have cp2 : w1.cell? ⟨g3, 2, none⟩ = some (.slice Ad data.length cd) := (blk_cell BP.out 2).trans rfl; clear hbox hbel hgr))
    go_loopg [5] ps.length (fun gk v5 w' => ∃ x : Int, v5 = .int .i64 x ∧ Aside0 (0 ≤ x ∧ (gk : Int) + x = (ps.length : Int)) ∧ Aside0 (Kd.S (Kd.slice 5 (Kd.int .u8)) 22 w' w0.heap.size (fun q => P q ∨ (Q q ∧ f q < x.toNat ∧ some q ≠ (.slice A1 ps.length c1 : Value).ownBlock)) (.slice A0 safe.length c0) (syncL safe (ps.take x.toNat))) ∧ Aside0 ((Kd.tag f k185).R 185 w' w0.heap.size Q (.slice A1 ps.length c1) ps.zipIdx) ∧
      Aside0 (w'.heap[g]? = some (.cells #[.slice A0 safe.length c0, .slice A1 ps.length c1] 44 (0, 0))) ∧ Aside0 (Below w0.heap.size w0 w'))
    case atStart =>
      exact ⟨0, rfl, ⟨by omega⟩, ⟨Kd.S_mono HS.out (ok' := fun q => P q ∨ (Q q ∧ f q < (0 : Int).toNat ∧ some q ≠ (.slice A1 ps.length c1 : Value).ownBlock)) (fun q hq => Or.inl hq)⟩, HT, BG, HB⟩
    case round =>
      clear HS HT BG HB cg0 cg1 cp0 cp1 cp2 d0 d1 d2 d3
      obtain ⟨x, rfl, HXK, HS, HT, BG, HB⟩ := hrel
      cases gk with
      | zero =>
        have hx : x = (ps.length : Int) := by have := HXK.out; omega
        subst hx
        have c4b0 : decide ((ps.length : Int) < (ps.length : Int)) = false := decide_eq_false (by omega)
        have hs := HS.out
        rw [Int.toNat_natCast, List.take_length] at hs
        have HS0 := Aside0.mk hs
        clear hs HS HT
        have cg0 : wr.cell? ⟨g, 0, none⟩ = some (.slice A0 safe.length c0) := (blk_cell BG.out 0).trans rfl
        have cg1 : wr.cell? ⟨g, 1, none⟩ = some (.slice A1 ps.length c1) := (blk_cell BG.out 1).trans rfl
        go_wp2_with (first | ((with_reducible refine gate_dst (N := 49) rfl ?_); refine Kd.S_lit k185 _ 185 ?hg (N := 49) ?hd (xs := ([] : List (S185))) (inner := []) (ok := fun _ => True) (okp := fun _ => True) ?hr ?hp (fun _ hk => hk) trivial (Below.refl _ _) (Nat.le_refl _) (by simp) ?_; (case hd => rfl); (case hg => rfl); (case hr => first | (go_simp; done) | (go_simp; rfl)); (case hp => exact (Reps.none _ _)); intro v4 w4 ho hbel _ _; obtain ⟨Aq, cq, rfl⟩ := Kd.S_slice ho; obtain ⟨N0, hN0⟩ : ∃ N, N = wr.heap.size := ⟨_, rfl⟩; have HSQ := Aside0.mk (Kd.S_mono (Kd.S_lower (Kd.S_bound ho) HB.out.size) (ok' := fun q => N0 ≤ q) (fun q hq => by have := hq.2.1; omega)); have HS0 := Aside0.mk (Kd.S_below (Kd.S_mono (Kd.S_bound HS0.out) (ok' := fun q => (P q ∨ (Q q ∧ f q < ps.length ∧ some q ≠ (.slice A1 ps.length c1 : Value).ownBlock)) ∧ q < N0) (fun q hq => ⟨hq.1, by have := hq.2.2.1; omega⟩)) hbel); have BG := Aside0.mk (blk_below BG.out hbel); have HB := Aside0.mk (below_step HB.out hbel); clear ho hbel hN0) | ((with_reducible refine gate_ (.store 42 (.tmp 51) (.tmp 49)) rfl ?_); refine store_blk rfl rfl 42 (.tmp 51) (.tmp 49) rfl (off := 1) (u := .slice Aq ([] : List S185).length cq) #[.slice A0 safe.length c0, .slice Aq ([] : List S185).length cq] rfl rfl BG.out [.slice Aq ([] : List S185).length cq] rfl (by kernel_rfl) (Nat.le_of_ble_eq_true rfl) rfl rfl ?_; intro w8 hblk hgrw; have HS0 := Aside0.mk (S_off HS0.out BG.out (by decide) hgrw); have HSQ := Aside0.mk (S_off HSQ.out BG.out (by decide) hgrw); have HB := Aside0.mk (HB.out.grown hgrw HB.out.size (by intro q hq; cases hq; exact HG.out)); have BG := Aside0.mk hblk; clear hblk hgrw))
        have hsl2 : (syncL safe ps).length = safe.length := syncL_length _ _
        go_ret
        exact ⟨rfl, ⟨A0, c0, Aq, cq, fun q => (P q ∨ (Q q ∧ f q < ps.length ∧ some q ≠ (.slice A1 ps.length c1 : Value).ownBlock)) ∧ q < N0, fun q => N0 ≤ q, by rw [hsl2]; exact BG.out, ⟨fun q h1 h2 => by have := h1.2; omega, by rw [hsl2]; exact HS0.out, HSQ.out⟩, HG.out⟩, HB.out⟩
      | succ gk =>
        have p0 : 0 ≤ x := HXK.out.1
        have q0 : x < (ps.length : Int) := by have := HXK.out; omega
        have c4b0 : decide (x < (ps.length : Int)) = true := decide_eq_true q0
        have c4b1 : decide (0 ≤ x) = true := decide_eq_true p0
        obtain ⟨gq, cq, eq, eqr⟩ := Kd.R_form HT.out (by rw [List.length_zipIdx]; omega)
        injection eq with eq1 eq2 eq3
        clear eq2 eq3 eqr
        obtain ⟨ad, had⟩ : ∃ ad : Addr, A1 = some ad := ⟨_, eq1⟩
        subst had
        obtain ⟨c, hcl, hM, hcc⟩ := Kd.R_getA HT.out (z185, 0) x p0 (by omega)
        have hze : ps.zipIdx.getD x.toNat (z185, 0) = (rd_T185 ps x, x.toNat) := by
          have hq : x.toNat < ps.length := by omega
          simp [rd_T185, List.getD_eq_getElem?_getD, List.getElem?_zipIdx, List.getElem?_eq_getElem hq]
        rw [hze] at hM
        obtain ⟨ve, hce, hE⟩ := k185_openM hM
        obtain ⟨Ae, ce, rfl⟩ := Kd.R_slice hE
        have hx0 : wr.cell? (ad.add (x.toNat * 2)) = some (.int .i64 (rd_T185 ps x).f0) := hcc 0 _ (by rw [hce]; rfl)
        have hx1 : wr.cell? ⟨(ad.add (x.toNat * 2)).block, (ad.add (x.toNat * 2)).off + 1, none⟩ = some (.slice Ae (rd_T185 ps x).f1.length ce) := by
          have h1 := hcc 1 _ (by rw [hce]; rfl)
          obtain ⟨gz, rfl⟩ := Kd.R_head HT.out
          have e2 : ((⟨gz, 0, none⟩ : Addr).add (x.toNat * (Kd.tag f k185).sz + 1)) = ⟨((⟨gz, 0, none⟩ : Addr).add (x.toNat * 2)).block, ((⟨gz, 0, none⟩ : Addr).add (x.toNat * 2)).off + 1, none⟩ := by
            rw [add_at, add_at]
            rfl
          rw [← e2]
          exact h1
        have HE := Aside0.mk (Kd.R_tight rfl hE)
        have HEO : Aside0 (∀ q, some q = (.slice Ae (rd_T185 ps x).f1.length ce : Value).ownBlock → (Q q ∧ some q ≠ (.slice (some ad) ps.length c1 : Value).ownBlock) ∧ f q = x.toNat) := ⟨fun q hq => hE.1 q hq.symm⟩
        have hpr := HRG.out _ (getD_mem (z := z185) p0 q0)
        have hsl2 : (syncL safe (ps.take x.toNat)).length = safe.length := syncL_length _ _
        obtain ⟨gs, cs, es, esr⟩ := Kd.S_form HS.out (by rw [hsl2]; have := hpr; omega)
        injection es with es1 es2 es3
        clear es2 es3 esr
        subst es1
        have HP0 := Aside0.mk p0
        have HQ0 := Aside0.mk q0
        have r0 : 0 ≤ (rd_T185 ps x).f0 := hpr.1
        have r1 : (rd_T185 ps x).f0 < (safe.length : Int) := hpr.2
        have r2 : decide ((rd_T185 ps x).f0 < (safe.length : Int)) = true := decide_eq_true r1
        have r3 : decide (0 ≤ (rd_T185 ps x).f0) = true := decide_eq_true r0
        have HR0 := Aside0.mk r0
        have HR1 := Aside0.mk r1
        clear hcl hM hcc hze hce hE hpr hsl2 eq1
        replace r0 := eq_true r0
        replace r1 := eq_true r1
        replace p0 := eq_true p0
        replace q0 := eq_true q0
        have cg0 : wr.cell? ⟨g, 0, none⟩ = some (.slice (some ⟨gs, 0, none⟩) safe.length c0) := (blk_cell BG.out 0).trans rfl
        have cg1 : wr.cell? ⟨g, 1, none⟩ = some (.slice (some ad) ps.length c1) := (blk_cell BG.out 1).trans rfl
        go_wp2_with fail
        refine start_ (n := 22) (S := fun w' => w'.cell? ⟨g, 0, none⟩ = some (.slice (some ⟨gs, 0, none⟩) safe.length c0) ∧ w'.cell? ⟨g, 1, none⟩ = some (.slice (some ad) ps.length c1) ∧ w'.cell? (ad.add (x.toNat * 2)) = some (.int .i64 (rd_T185 ps x).f0) ∧ w'.cell? ⟨(ad.add (x.toNat * 2)).block, (ad.add (x.toNat * 2)).off + 1, none⟩ = some (.slice Ae (rd_T185 ps x).f1.length ce)) (ds := [21]) #[false, false, false, false, false, false, false, false, false, false, false, false, false, false, false, false, false, false, false, false, false, false] (by kernel_rfl) rfl rfl (⟨(blk_cell BG.out 0).trans rfl, (blk_cell BG.out 1).trans rfl, hx0, hx1⟩) (fun hHeld => ?_); refine with_tabW spec_l1Do.tab7 spec_l1Do.bits7 (fun HT_ HW_ => ?_)
        have BG := Aside0.mk (blk_drew BG.out)
        have HB := Aside0.mk (below_drew1 HB.out)
        have HT := Aside0.mk (Kd.R_drew HT.out)
        have HS := Aside0.mk (Kd.S_drew HS.out)
        have HE := Aside0.mk (Kd.R_drew HE.out)
        refine pure_ (i := 0) (N := some 27) (v := ?_) (a' := ?_) #[true, false, false, false, false, false, false, false, false, false, false, false, false, false, false, false, false, false, false, false, false, false] rfl rfl (any_of HT_.out (by kernel_rfl)) (fun _ _ _ h => h) (Or.inl ⟨by rfl, ?_⟩) ?_ ?_
        rotate_left
        · intro w'
          go_simp
          with_reducible rfl
        rotate_left
        · simp only [Act.put, List.setIfInBounds_toArray, List.set_cons_zero, List.set_cons_succ, i64_w, i32_w]
          rfl
        refine pure_ (i := 1) (N := some 28) (v := ?_) (a' := ?_) #[true, true, false, false, false, false, false, false, false, false, false, false, false, false, false, false, false, false, false, false, false, false] rfl rfl (any_of HT_.out (by kernel_rfl)) (fun _ _ _ h => h) (Or.inl ⟨by rfl, ?_⟩) ?_ ?_
        rotate_left
        · intro w'
          go_simp
          with_reducible rfl
        rotate_left
        · simp only [Act.put, List.setIfInBounds_toArray, List.set_cons_zero, List.set_cons_succ, i64_w, i32_w]
          rfl
        refine pure_ (i := 2) (N := some 29) (v := ?_) (a' := ?_) #[true, true, true, false, false, false, false, false, false, false, false, false, false, false, false, false, false, false, false, false, false, false] rfl rfl (any_of HT_.out (by kernel_rfl)) (fun _ _ _ h => h) (Or.inl ⟨by rfl, ?_⟩) ?_ ?_
        rotate_left
        · intro w'
          go_simp
          with_reducible rfl
        rotate_left
        · simp only [Act.put, List.setIfInBounds_toArray, List.set_cons_zero, List.set_cons_succ, i64_w, i32_w]
          rfl
        refine pure_ (i := 4) (N := some 31) (v := ?_) (a' := ?_) #[true, true, true, false, true, false, false, false, false, false, false, false, false, false, false, false, false, false, false, false, false, false] rfl rfl (any_of HT_.out (by kernel_rfl)) (fun _ _ _ h => h) (Or.inl ⟨by rfl, ?_⟩) ?_ ?_
        rotate_left
        · intro w'
          go_simp
          with_reducible rfl
        rotate_left
        · simp only [Act.put, List.setIfInBounds_toArray, List.set_cons_zero, List.set_cons_succ, i64_w, i32_w]
          rfl
        refine pure_ (i := 5) (N := some 32) (v := ?_) (a' := ?_) #[true, true, true, false, true, true, false, false, false, false, false, false, false, false, false, false, false, false, false, false, false, false] rfl rfl (any_of HT_.out (by kernel_rfl)) (fun _ _ _ h => h) (Or.inl ⟨by rfl, ?_⟩) ?_ ?_
        rotate_left
        · intro w'
          go_simp
          with_reducible rfl
        rotate_left
        · simp only [Act.put, List.setIfInBounds_toArray, List.set_cons_zero, List.set_cons_succ, i64_w, i32_w]
          rfl
        refine pure_ (i := 6) (N := some 33) (v := ?_) (a' := ?_) #[true, true, true, false, true, true, true, false, false, false, false, false, false, false, false, false, false, false, false, false, false, false] rfl rfl (any_of HT_.out (by kernel_rfl)) (fun _ _ _ h => h) (Or.inl ⟨by rfl, ?_⟩) ?_ ?_
        rotate_left
        · intro w'
          go_simp
          with_reducible rfl
        rotate_left
        · simp only [Act.put, List.setIfInBounds_toArray, List.set_cons_zero, List.set_cons_succ, i64_w, i32_w]
          rfl
        refine pure_ (i := 8) (N := some 35) (v := ?_) (a' := ?_) #[true, true, true, false, true, true, true, false, true, false, false, false, false, false, false, false, false, false, false, false, false, false] rfl rfl (any_of HT_.out (by kernel_rfl)) (fun _ _ _ h => h) (Or.inl ⟨by rfl, ?_⟩) ?_ ?_
        rotate_left
        · intro w'
          go_simp
          with_reducible rfl
        rotate_left
        · simp only [Act.put, List.setIfInBounds_toArray, List.set_cons_zero, List.set_cons_succ, i64_w, i32_w]
          rfl
        refine pure_ (i := 12) (N := some 39) (v := ?_) (a' := ?_) #[true, true, true, false, true, true, true, false, true, false, false, false, true, false, false, false, false, false, false, false, false, false] rfl rfl (any_of HT_.out (by kernel_rfl)) (fun _ _ _ h => h) (Or.inl ⟨by rfl, ?_⟩) ?_ ?_
        rotate_left
        · intro w'
          go_simp
          with_reducible rfl
        rotate_left
        · simp only [Act.put, List.setIfInBounds_toArray, List.set_cons_zero, List.set_cons_succ, i64_w, i32_w]
          rfl
        refine pure_ (i := 13) (N := some 40) (v := ?_) (a' := ?_) #[true, true, true, false, true, true, true, false, true, false, false, false, true, true, false, false, false, false, false, false, false, false] rfl rfl (any_of HT_.out (by kernel_rfl)) (fun _ _ _ h => h) (Or.inl ⟨by rfl, ?_⟩) ?_ ?_
        rotate_left
        · intro w'
          go_simp
          with_reducible rfl
        rotate_left
        · simp only [Act.put, List.setIfInBounds_toArray, List.set_cons_zero, List.set_cons_succ, i64_w, i32_w]
          rfl
        refine pure_ (i := 14) (N := some 41) (v := ?_) (a' := ?_) #[true, true, true, false, true, true, true, false, true, false, false, false, true, true, true, false, false, false, false, false, false, false] rfl rfl (any_of HT_.out (by kernel_rfl)) (fun _ _ _ h => h) (Or.inl ⟨by rfl, ?_⟩) ?_ ?_
        rotate_left
        · intro w'
          go_simp
          with_reducible rfl
        rotate_left
        · simp only [Act.put, List.setIfInBounds_toArray, List.set_cons_zero, List.set_cons_succ, i64_w, i32_w]
          rfl
        refine pure_ (i := 16) (N := some 43) (v := ?_) (a' := ?_) #[true, true, true, false, true, true, true, false, true, false, false, false, true, true, true, false, true, false, false, false, false, false] rfl rfl (any_of HT_.out (by kernel_rfl)) (fun _ _ _ h => h) (Or.inl ⟨by rfl, ?_⟩) ?_ ?_
        rotate_left
        · intro w'
          go_simp
          with_reducible rfl
        rotate_left
        · simp only [Act.put, List.setIfInBounds_toArray, List.set_cons_zero, List.set_cons_succ, i64_w, i32_w]
          rfl
        refine take_ (i := 3) (N := some 30) (v := ?_) (a' := ?_) #[true, true, true, true, true, true, true, false, true, false, false, false, true, true, true, false, true, false, false, false, false, false] rfl rfl (take_ofW HT_.out HW_.out (by kernel_rfl)) (fun _ _ _ h => h) (Or.inl ⟨by rfl, ?_⟩) hHeld ?_ ?_
        rotate_left
        · intro w' s0
          obtain ⟨s0, s1, s2, s3⟩ := s0
          go_simp
          with_reducible rfl
        rotate_left
        · simp only [Act.put, List.setIfInBounds_toArray, List.set_cons_zero, List.set_cons_succ, i64_w, i32_w]
          rfl
        refine take_ (i := 7) (N := some 34) (v := ?_) (a' := ?_) #[true, true, true, true, true, true, true, true, true, false, false, false, true, true, true, false, true, false, false, false, false, false] rfl rfl (take_ofW HT_.out HW_.out (by kernel_rfl)) (fun _ _ _ h => h) (Or.inl ⟨by rfl, ?_⟩) hHeld ?_ ?_
        rotate_left
        · intro w' s0
          obtain ⟨s0, s1, s2, s3⟩ := s0
          go_simp
          with_reducible rfl
        rotate_left
        · simp only [Act.put, List.setIfInBounds_toArray, List.set_cons_zero, List.set_cons_succ, i64_w, i32_w]
          rfl
        refine take_ (i := 15) (N := some 42) (v := ?_) (a' := ?_) #[true, true, true, true, true, true, true, true, true, false, false, false, true, true, true, true, true, false, false, false, false, false] rfl rfl (take_ofW HT_.out HW_.out (by kernel_rfl)) (fun _ _ _ h => h) (Or.inl ⟨by rfl, ?_⟩) hHeld ?_ ?_
        rotate_left
        · intro w' s0
          obtain ⟨s0, s1, s2, s3⟩ := s0
          go_simp
          with_reducible rfl
        rotate_left
        · simp only [Act.put, List.setIfInBounds_toArray, List.set_cons_zero, List.set_cons_succ, i64_w, i32_w]
          rfl
        refine pure_ (i := 9) (N := some 36) (v := ?_) (a' := ?_) #[true, true, true, true, true, true, true, true, true, true, false, false, true, true, true, true, true, false, false, false, false, false] rfl rfl (any_of HT_.out (by kernel_rfl)) (fun _ _ _ h => h) (Or.inl ⟨by rfl, ?_⟩) ?_ ?_
        rotate_left
        · intro w'
          go_simp
          with_reducible rfl
        rotate_left
        · simp only [Act.put, List.setIfInBounds_toArray, List.set_cons_zero, List.set_cons_succ, i64_w, i32_w]
          rfl
        refine pure_ (i := 17) (N := some 44) (v := ?_) (a' := ?_) #[true, true, true, true, true, true, true, true, true, true, false, false, true, true, true, true, true, true, false, false, false, false] rfl rfl (any_of HT_.out (by kernel_rfl)) (fun _ _ _ h => h) (Or.inl ⟨by rfl, ?_⟩) ?_ ?_
        rotate_left
        · intro w'
          go_simp
          with_reducible rfl
        rotate_left
        · simp only [Act.put, List.setIfInBounds_toArray, List.set_cons_zero, List.set_cons_succ, i64_w, i32_w]
          rfl
        refine pure_ (i := 10) (N := some 37) (v := ?_) (a' := ?_) #[true, true, true, true, true, true, true, true, true, true, true, false, true, true, true, true, true, true, false, false, false, false] rfl rfl (any_of HT_.out (by kernel_rfl)) (fun _ _ _ h => h) (Or.inl ⟨by rfl, ?_⟩) ?_ ?_
        rotate_left
        · intro w'
          go_simp
          with_reducible rfl
        rotate_left
        · simp only [Act.put, List.setIfInBounds_toArray, List.set_cons_zero, List.set_cons_succ, i64_w, i32_w]
          rfl
        refine pure_ (i := 18) (N := some 45) (v := ?_) (a' := ?_) #[true, true, true, true, true, true, true, true, true, true, true, false, true, true, true, true, true, true, true, false, false, false] rfl rfl (any_of HT_.out (by kernel_rfl)) (fun _ _ _ h => h) (Or.inl ⟨by rfl, ?_⟩) ?_ ?_
        rotate_left
        · intro w'
          go_simp
          with_reducible rfl
        rotate_left
        · simp only [Act.put, List.setIfInBounds_toArray, List.set_cons_zero, List.set_cons_succ, i64_w, i32_w]
          rfl
        refine take_ (i := 11) (N := some 38) (v := ?_) (a' := ?_) #[true, true, true, true, true, true, true, true, true, true, true, true, true, true, true, true, true, true, true, false, false, false] rfl rfl (take_ofW HT_.out HW_.out (by kernel_rfl)) (fun _ _ _ h => h) (Or.inl ⟨by rfl, ?_⟩) hHeld ?_ ?_
        rotate_left
        · intro w' s0
          obtain ⟨s0, s1, s2, s3⟩ := s0
          go_simp
          with_reducible rfl
        rotate_left
        · simp only [Act.put, List.setIfInBounds_toArray, List.set_cons_zero, List.set_cons_succ, i64_w, i32_w]
          rfl
        refine take_ (i := 19) (N := some 46) (v := ?_) (a' := ?_) #[true, true, true, true, true, true, true, true, true, true, true, true, true, true, true, true, true, true, true, true, false, false] rfl rfl (take_ofW HT_.out HW_.out (by kernel_rfl)) (fun _ _ _ h => h) (Or.inl ⟨by rfl, ?_⟩) hHeld ?_ ?_
        rotate_left
        · intro w' s0
          obtain ⟨s0, s1, s2, s3⟩ := s0
          go_simp
          with_reducible rfl
        rotate_left
        · simp only [Act.put, List.setIfInBounds_toArray, List.set_cons_zero, List.set_cons_succ, i64_w, i32_w]
          rfl
        refine pure_ (i := 20) (N := some 47) (v := ?_) (a' := ?_) #[true, true, true, true, true, true, true, true, true, true, true, true, true, true, true, true, true, true, true, true, true, false] rfl rfl (any_of HT_.out (by kernel_rfl)) (fun _ _ _ h => h) (Or.inl ⟨by rfl, ?_⟩) ?_ ?_
        rotate_left
        · intro w'
          go_simp
          with_reducible rfl
        rotate_left
        · simp only [Act.put, List.setIfInBounds_toArray, List.set_cons_zero, List.set_cons_succ, i64_w, i32_w]
          rfl
        refine last_ (i := 21) (N := none) #[true, true, true, true, true, true, true, true, true, true, true, true, true, true, true, true, true, true, true, true, true, true] rfl rfl (one_of HT_.out (by kernel_rfl)) (by decide) (fun K hK => ?_)
        refine S_put_step (base := w0.heap.size) (g := gs) (n := safe.length) (cap := c0) (by rfl) rfl 22 (.tmp 47) (.tmp 46) rfl (rd_T185 ps x).f0 (syncL safe (ps.take x.toNat)) (rd_T185 ps x).f1 (.slice Ae (rd_T185 ps x).f1.length ce) _ (fun q => some q = (.slice Ae (rd_T185 ps x).f1.length ce : Value).ownBlock) (by first | rfl | simp [Act.eval, Addr.add, *]) rfl rfl (by kernel_rfl) rfl HS.out HR0.out (by have := HR1.out; omega) HE.out (fun q hq h => by have h2 := HEO.out q hq; rcases h with h | h; exact HDJ.out q h h2.1.1; have := h.2.1; omega) ?_
        intro w7 hs hgrw
        obtain ⟨cells, hcs⟩ := Kd.S_typed HS.out gs rfl
        have HT := Aside0.mk (R_off HT.out hcs (show ∀ q, q ∈ [185, 5] → q ≠ 22 by decide) hgrw)
        have BG := Aside0.mk (blk_off BG.out hcs (by decide) hgrw)
        have HB := Aside0.mk (HB.out.grown hgrw HB.out.size (by intro q hq; cases hq; exact Kd.S_base HS.out gs rfl))
        have HS := Aside0.mk (Kd.S_mono hs (ok' := fun q => P q ∨ (Q q ∧ f q < (x + 1).toNat ∧ some q ≠ (.slice (some ad) ps.length c1 : Value).ownBlock)) (fun q hq => by
          have := HP0.out
          rcases hq with (hq | hq) | hq
          · exact .inl hq
          · exact .inr ⟨hq.1, by have := hq.2.1; omega, hq.2.2⟩
          · have h2 := HEO.out q hq
            exact .inr ⟨h2.1.1, by omega, h2.1.2⟩))
        clear hs hgrw hcs hHeld HE
        refine hK.out _ _ ?_
        clear hK K
        refine done_ (done_of HT_.out (by kernel_rfl)) ?_
        try clear hHeld
        clear hx0 hx1 cg0 cg1
        go_wp2_with fail
        go_roundg gk
        case measure => omega
        case rel =>
          have hw1 : wrap64 (x + 1) = x + 1 := by have := HP0.out; have := HQ0.out; have := HPS.out; unfold wrap64; omega
          exact ⟨x + 1, by first | rfl | (rw [hw1]), ⟨by have := HXK.out; omega⟩, ⟨by rw [take_snoc (z := z185) HP0.out HQ0.out, syncL_snoc]; exact HS.out⟩, HT, BG, HB⟩
  have e2 : (kind == 2) = false := beq_eq_false_iff_ne.mpr k2
  by_cases k1 : kind = 1
  case neg =>
    rw [if_neg k1, if_neg k2] at hdo
    have e1 : (kind != 1) = true := bne_iff_ne.mpr k1
    have e3 : (kind == 1) = false := beq_eq_false_iff_ne.mpr k1
    clear k1 k2
    obtain ⟨⟨rfl, rfl⟩, rfl⟩ : (safe = sf ∧ ps = pf) ∧ false = rf := by simpa using hdo
    clear hdo
    go_wp2_with (first | ((with_reducible refine gate_dst (N := 3) rfl ?_); refine box_event ?hg (N := 3) ?hd (cs := #[.int .i64 kind, .int .i64 at_, .slice Ad data.length cd]) (t := 63) ?hr ?_; (case hd => rfl); (case hg => rfl); (case hr => first | (go_simp; done) | (go_simp; rfl)); intro g3 hgr w1 hbox hbel; have BP := Aside0.mk hbox; have BG := Aside0.mk (blk_below BG.out hbel); have HD := Aside0.mk (IsDisk_below HD.out hbel); have HB := Aside0.mk (below_step HB.out hbel); have cg0 : w1.cell? ⟨g, 0, none⟩ = some (.slice A0 safe.length c0) := (blk_cell BG.out 0).trans rfl; have cg1 : w1.cell? ⟨g, 1, none⟩ = some (.slice A1 ps.length c1) := (blk_cell BG.out 1).trans rfl; have cp0 : w1.cell? ⟨g3, 0, none⟩ = some (.int .i64 kind) := (blk_cell BP.out 0).trans rfl; have cp1 : w1.cell? ⟨g3, 1, none⟩ = some (.int .i64 at_) := (blk_cell BP.out 1).trans rfl; have cp2 : w1.cell? ⟨g3, 2, none⟩ = some (.slice Ad data.length cd) := (blk_cell BP.out 2).trans rfl; clear hbox hbel hgr))
    go_quiet (fail)
    go_wp2_with fail
    go_ret
    exact ⟨rfl, ⟨A0, c0, A1, c1, P, Q, blk_drewN BG.out _, ⟨HD.out.1, Kd.S_drewN HD.out.2.1 _, Kd.S_drewN HD.out.2.2 _⟩, HG.out⟩, pw_below_drewN HB.out _⟩
  rw [if_pos k1] at hdo
  have e1 : (kind != 1) = false := bne_eq_false_iff_eq.mpr k1
  have e3 : (kind == 1) = true := beq_iff_eq.mpr k1
  clear k1 k2
  by_cases h0 : at_ < 0
  · rw [if_pos h0] at hdo
    have d0 : decide (at_ < 0) = true := decide_eq_true h0
    clear h0
    obtain ⟨⟨rfl, rfl⟩, rfl⟩ : (safe = sf ∧ ps = pf) ∧ false = rf := by simpa using hdo
    clear hdo
    go_wp2_with (first | ((with_reducible refine gate_dst (N := 3) rfl ?_); refine box_event ?hg (N := 3) ?hd (cs := #[.int .i64 kind, .int .i64 at_, .slice Ad data.length cd]) (t := 63) ?hr ?_; (case hd => rfl); (case hg => rfl); (case hr => first | (go_simp; done) | (go_simp; rfl)); intro g3 hgr w1 hbox hbel; have BP := Aside0.mk hbox; have BG := Aside0.mk (blk_below BG.out hbel); have HD := Aside0.mk (IsDisk_below HD.out hbel); have HB := Aside0.mk (below_step HB.out hbel); have cg0 : w1.cell? ⟨g, 0, none⟩ = some (.slice A0 safe.length c0) := (blk_cell BG.out 0).trans rfl; have cg1 : w1.cell? ⟨g, 1, none⟩ = some (.slice A1 ps.length c1) := (blk_cell BG.out 1).trans rfl; have cp0 : w1.cell? ⟨g3, 0, none⟩ = some (.int .i64 kind) := (blk_cell BP.out 0).trans rfl; have cp1 : w1.cell? ⟨g3, 1, none⟩ = some (.int .i64 at_) := (blk_cell BP.out 1).trans rfl; have cp2 : w1.cell? ⟨g3, 2, none⟩ = some (.slice Ad data.length cd) := (blk_cell BP.out 2).trans rfl; clear hbox hbel hgr))
    go_quiet (fail)
    go_wp2_with fail
    go_ret
    exact ⟨rfl, ⟨A0, c0, A1, c1, P, Q, blk_drewN BG.out _, ⟨HD.out.1, Kd.S_drewN HD.out.2.1 _, Kd.S_drewN HD.out.2.2 _⟩, HG.out⟩, pw_below_drewN HB.out _⟩
  rw [if_neg h0] at hdo
  have d0 : decide (at_ < 0) = false := decide_eq_false h0
  by_cases h1 : (safe.length : Int) ≤ at_
  · rw [if_pos h1] at hdo
    have d1 : decide ((safe.length : Int) ≤ at_) = true := decide_eq_true h1
    clear h0 h1
    obtain ⟨⟨rfl, rfl⟩, rfl⟩ : (safe = sf ∧ ps = pf) ∧ false = rf := by simpa using hdo
    clear hdo
    go_wp2_with (first | ((with_reducible refine gate_dst (N := 3) rfl ?_); refine box_event ?hg (N := 3) ?hd (cs := #[.int .i64 kind, .int .i64 at_, .slice Ad data.length cd]) (t := 63) ?hr ?_; (case hd => rfl); (case hg => rfl); (case hr => first | (go_simp; done) | (go_simp; rfl)); intro g3 hgr w1 hbox hbel; have BP := Aside0.mk hbox; have BG := Aside0.mk (blk_below BG.out hbel); have HD := Aside0.mk (IsDisk_below HD.out hbel); have HB := Aside0.mk (below_step HB.out hbel); have cg0 : w1.cell? ⟨g, 0, none⟩ = some (.slice A0 safe.length c0) := (blk_cell BG.out 0).trans rfl; have cg1 : w1.cell? ⟨g, 1, none⟩ = some (.slice A1 ps.length c1) := (blk_cell BG.out 1).trans rfl; have cp0 : w1.cell? ⟨g3, 0, none⟩ = some (.int .i64 kind) := (blk_cell BP.out 0).trans rfl; have cp1 : w1.cell? ⟨g3, 1, none⟩ = some (.int .i64 at_) := (blk_cell BP.out 1).trans rfl; have cp2 : w1.cell? ⟨g3, 2, none⟩ = some (.slice Ad data.length cd) := (blk_cell BP.out 2).trans rfl; clear hbox hbel hgr))
    go_quiet (fail)
    go_wp2_with fail
    go_ret
    exact ⟨rfl, ⟨A0, c0, A1, c1, P, Q, blk_drewN BG.out _, ⟨HD.out.1, Kd.S_drewN HD.out.2.1 _, Kd.S_drewN HD.out.2.2 _⟩, HG.out⟩, pw_below_drewN HB.out _⟩
  rw [if_neg h1] at hdo
  have d1 : decide ((safe.length : Int) ≤ at_) = false := decide_eq_false h1
  by_cases h2 : data.length = 64
  case neg =>
    rw [if_neg h2] at hdo
    have d2 : ((data.length : Int) != 64) = true := bne_iff_ne.mpr (by omega)
    have d3 : ((data.length : Int) == 64) = false := beq_eq_false_iff_ne.mpr (by omega)
    clear h0 h1 h2
    obtain ⟨⟨rfl, rfl⟩, rfl⟩ : (safe = sf ∧ ps = pf) ∧ false = rf := by simpa using hdo
    clear hdo
    go_wp2_with (first | ((with_reducible refine gate_dst (N := 3) rfl ?_); refine box_event ?hg (N := 3) ?hd (cs := #[.int .i64 kind, .int .i64 at_, .slice Ad data.length cd]) (t := 63) ?hr ?_; (case hd => rfl); (case hg => rfl); (case hr => first | (go_simp; done) | (go_simp; rfl)); intro g3 hgr w1 hbox hbel; have BP := Aside0.mk hbox; have BG := Aside0.mk (blk_below BG.out hbel); have HD := Aside0.mk (IsDisk_below HD.out hbel); have HB := Aside0.mk (below_step HB.out hbel); have cg0 : w1.cell? ⟨g, 0, none⟩ = some (.slice A0 safe.length c0) := (blk_cell BG.out 0).trans rfl; have cg1 : w1.cell? ⟨g, 1, none⟩ = some (.slice A1 ps.length c1) := (blk_cell BG.out 1).trans rfl; have cp0 : w1.cell? ⟨g3, 0, none⟩ = some (.int .i64 kind) := (blk_cell BP.out 0).trans rfl; have cp1 : w1.cell? ⟨g3, 1, none⟩ = some (.int .i64 at_) := (blk_cell BP.out 1).trans rfl; have cp2 : w1.cell? ⟨g3, 2, none⟩ = some (.slice Ad data.length cd) := (blk_cell BP.out 2).trans rfl; clear hbox hbel hgr))
    go_quiet (fail)
    go_wp2_with fail
    go_ret
    exact ⟨rfl, ⟨A0, c0, A1, c1, P, Q, blk_drewN BG.out _, ⟨HD.out.1, Kd.S_drewN HD.out.2.1 _, Kd.S_drewN HD.out.2.2 _⟩, HG.out⟩, pw_below_drewN HB.out _⟩
  rw [if_pos h2] at hdo
  have d2 : ((data.length : Int) != 64) = false := bne_eq_false_iff_eq.mpr (by omega)
  have d3 : ((data.length : Int) == 64) = true := beq_iff_eq.mpr (by omega)
  by_cases h3 : 5000 ≤ ps.length
  · rw [if_pos h3] at hdo
    have d4 : decide ((5000 : Int) ≤ (ps.length : Int)) = true := decide_eq_true (by omega)
    clear h0 h1 h2 h3
    obtain ⟨⟨rfl, rfl⟩, rfl⟩ : (safe = sf ∧ ps = pf) ∧ false = rf := by simpa using hdo
    clear hdo
    go_wp2_with (first | ((with_reducible refine gate_dst (N := 3) rfl ?_); refine box_event ?hg (N := 3) ?hd (cs := #[.int .i64 kind, .int .i64 at_, .slice Ad data.length cd]) (t := 63) ?hr ?_; (case hd => rfl); (case hg => rfl); (case hr => first | (go_simp; done) | (go_simp; rfl)); intro g3 hgr w1 hbox hbel; have BP := Aside0.mk hbox; have BG := Aside0.mk (blk_below BG.out hbel); have HD := Aside0.mk (IsDisk_below HD.out hbel); have HB := Aside0.mk (below_step HB.out hbel); have cg0 : w1.cell? ⟨g, 0, none⟩ = some (.slice A0 safe.length c0) := (blk_cell BG.out 0).trans rfl; have cg1 : w1.cell? ⟨g, 1, none⟩ = some (.slice A1 ps.length c1) := (blk_cell BG.out 1).trans rfl; have cp0 : w1.cell? ⟨g3, 0, none⟩ = some (.int .i64 kind) := (blk_cell BP.out 0).trans rfl; have cp1 : w1.cell? ⟨g3, 1, none⟩ = some (.int .i64 at_) := (blk_cell BP.out 1).trans rfl; have cp2 : w1.cell? ⟨g3, 2, none⟩ = some (.slice Ad data.length cd) := (blk_cell BP.out 2).trans rfl; clear hbox hbel hgr))
    go_quiet (fail)
    go_wp2_with fail
    go_ret
    exact ⟨rfl, ⟨A0, c0, A1, c1, P, Q, blk_drewN BG.out _, ⟨HD.out.1, Kd.S_drewN HD.out.2.1 _, Kd.S_drewN HD.out.2.2 _⟩, HG.out⟩, pw_below_drewN HB.out _⟩
  rw [if_neg h3] at hdo
  have d4 : decide ((5000 : Int) ≤ (ps.length : Int)) = false := decide_eq_false (by omega)
  have HDL := Aside0.mk h2
  clear h0 h1 h2 h3
  obtain ⟨⟨rfl, rfl⟩, rfl⟩ : (safe = sf ∧ ps ++ [⟨at_, data⟩] = pf) ∧ true = rf := by simpa using hdo
  clear hdo
  go_wp2_with (first | ((with_reducible refine gate_dst (N := 3) rfl ?_); refine box_event ?hg (N := 3) ?hd (cs := #[.int .i64 kind, .int .i64 at_, .slice Ad data.length cd]) (t := 63) ?hr ?_; (case hd => rfl); (case hg => rfl); (case hr => first | (go_simp; done) | (go_simp; rfl)); intro g3 hgr w1 hbox hbel; have BP := Aside0.mk hbox; have BG := Aside0.mk (blk_below BG.out hbel); have HD := Aside0.mk (IsDisk_below HD.out hbel); have HB := Aside0.mk (below_step HB.out hbel); have cg0 : w1.cell? ⟨g, 0, none⟩ = some (.slice A0 safe.length c0) := (blk_cell BG.out 0).trans rfl; have cg1 : w1.cell? ⟨g, 1, none⟩ = some (.slice A1 ps.length c1) := (blk_cell BG.out 1).trans rfl; have cp0 : w1.cell? ⟨g3, 0, none⟩ = some (.int .i64 kind) := (blk_cell BP.out 0).trans rfl; have cp1 : w1.cell? ⟨g3, 1, none⟩ = some (.int .i64 at_) := (blk_cell BP.out 1).trans rfl; have cp2 : w1.cell? ⟨g3, 2, none⟩ = some (.slice Ad data.length cd) := (blk_cell BP.out 2).trans rfl; clear hbox hbel hgr))
  go_quiet (fail)
  go_wp2_with fail
  have BG := Aside0.mk (blk_drewN BG.out nq)
  have BP := Aside0.mk (blk_drewN BP.out nq)
  have HD := Aside0.mk (show IsDisk (w1.drewN nq) w0.heap.size P Q (.slice A0 safe.length c0) (.slice A1 ps.length c1) safe ps from ⟨HD.out.1, Kd.S_drewN HD.out.2.1 _, Kd.S_drewN HD.out.2.2 _⟩)
  have HB := Aside0.mk (pw_below_drewN HB.out nq)
  clear cg0 cg1 cp0 cp1 cp2 d0 d1 d2 d3 d4
  generalize w1.drewN nq = w5 at BG BP HD HB ⊢
  obtain ⟨N0, hN0⟩ : ∃ N, N = w5.heap.size := ⟨_, rfl⟩
  have HN0 : Aside0 (N0 ≤ w5.heap.size) := ⟨Nat.le_of_eq hN0⟩
  have HDJ := Aside0.mk HD.out.1
  have HS0 := Aside0.mk (Kd.S_mono (Kd.S_bound HD.out.2.1) (ok' := fun q => P q ∧ q < N0) (fun q hq => ⟨hq.1, by have := hq.2.2.1; omega⟩))
  have HS1 := Aside0.mk (Kd.S_mono HD.out.2.2 (ok' := fun q => Q q ∨ N0 ≤ q) (fun q hq => .inl hq))
  clear hN0 HD
  refine start_ (n := 16) (S := fun w' => w'.cell? ⟨g, 1, none⟩ = some (.slice A1 ps.length c1) ∧ w'.cell? ⟨g3, 1, none⟩ = some (.int .i64 at_) ∧ w'.cell? ⟨g3, 2, none⟩ = some (.slice Ad data.length cd)) (ds := [15]) #[false, false, false, false, false, false, false, false, false, false, false, false, false, false, false, false] (by kernel_rfl) rfl rfl (⟨(blk_cell BG.out 1).trans rfl, (blk_cell BP.out 1).trans rfl, (blk_cell BP.out 2).trans rfl⟩) (fun hHeld => ?_); refine with_tabW spec_l1Do.tab12 spec_l1Do.bits12 (fun HT_ HW_ => ?_)
  have BG := Aside0.mk (blk_drew BG.out)
  have BP := Aside0.mk (blk_drew BP.out)
  have HB := Aside0.mk (below_drew1 HB.out)
  have HS0 := Aside0.mk (Kd.S_drew HS0.out)
  have HS1 := Aside0.mk (Kd.S_drew HS1.out)
  refine pure_ (i := 0) (N := some 84) (v := ?_) (a' := ?_) #[true, false, false, false, false, false, false, false, false, false, false, false, false, false, false, false] rfl rfl (any_of HT_.out (by kernel_rfl)) (fun _ _ _ h => h) (Or.inl ⟨by rfl, ?_⟩) ?_ ?_
  rotate_left
  · intro w'
    go_simp
    with_reducible rfl
  rotate_left
  · simp only [Act.put, List.setIfInBounds_toArray, List.set_cons_zero, List.set_cons_succ, i64_w, i32_w]
    rfl
  refine pure_ (i := 1) (N := some 85) (v := ?_) (a' := ?_) #[true, true, false, false, false, false, false, false, false, false, false, false, false, false, false, false] rfl rfl (any_of HT_.out (by kernel_rfl)) (fun _ _ _ h => h) (Or.inl ⟨by rfl, ?_⟩) ?_ ?_
  rotate_left
  · intro w'
    go_simp
    with_reducible rfl
  rotate_left
  · simp only [Act.put, List.setIfInBounds_toArray, List.set_cons_zero, List.set_cons_succ, i64_w, i32_w]
    rfl
  refine pure_ (i := 2) (N := some 86) (v := ?_) (a' := ?_) #[true, true, true, false, false, false, false, false, false, false, false, false, false, false, false, false] rfl rfl (any_of HT_.out (by kernel_rfl)) (fun _ _ _ h => h) (Or.inl ⟨by rfl, ?_⟩) ?_ ?_
  rotate_left
  · intro w'
    go_simp
    with_reducible rfl
  rotate_left
  · simp only [Act.put, List.setIfInBounds_toArray, List.set_cons_zero, List.set_cons_succ, i64_w, i32_w]
    rfl
  refine pure_ (i := 3) (N := some 87) (v := ?_) (a' := ?_) #[true, true, true, true, false, false, false, false, false, false, false, false, false, false, false, false] rfl rfl (any_of HT_.out (by kernel_rfl)) (fun _ _ _ h => h) (Or.inl ⟨by rfl, ?_⟩) ?_ ?_
  rotate_left
  · intro w'
    go_simp
    with_reducible rfl
  rotate_left
  · simp only [Act.put, List.setIfInBounds_toArray, List.set_cons_zero, List.set_cons_succ, i64_w, i32_w]
    rfl
  refine pure_ (i := 5) (N := some 89) (v := ?_) (a' := ?_) #[true, true, true, true, false, true, false, false, false, false, false, false, false, false, false, false] rfl rfl (any_of HT_.out (by kernel_rfl)) (fun _ _ _ h => h) (Or.inl ⟨by rfl, ?_⟩) ?_ ?_
  rotate_left
  · intro w'
    go_simp
    with_reducible rfl
  rotate_left
  · simp only [Act.put, List.setIfInBounds_toArray, List.set_cons_zero, List.set_cons_succ, i64_w, i32_w]
    rfl
  refine pure_ (i := 7) (N := some 91) (v := ?_) (a' := ?_) #[true, true, true, true, false, true, false, true, false, false, false, false, false, false, false, false] rfl rfl (any_of HT_.out (by kernel_rfl)) (fun _ _ _ h => h) (Or.inl ⟨by rfl, ?_⟩) ?_ ?_
  rotate_left
  · intro w'
    go_simp
    with_reducible rfl
  rotate_left
  · simp only [Act.put, List.setIfInBounds_toArray, List.set_cons_zero, List.set_cons_succ, i64_w, i32_w]
    rfl
  refine take_ (i := 4) (N := some 88) (v := ?_) (a' := ?_) #[true, true, true, true, true, true, false, true, false, false, false, false, false, false, false, false] rfl rfl (take_ofW HT_.out HW_.out (by kernel_rfl)) (fun _ _ _ h => h) (Or.inl ⟨by rfl, ?_⟩) hHeld ?_ ?_
  rotate_left
  · intro w' s0
    obtain ⟨s0, s1, s2⟩ := s0
    go_simp
    with_reducible rfl
  rotate_left
  · simp only [Act.put, List.setIfInBounds_toArray, List.set_cons_zero, List.set_cons_succ, i64_w, i32_w]
    rfl
  refine take_ (i := 6) (N := some 90) (v := ?_) (a' := ?_) #[true, true, true, true, true, true, true, true, false, false, false, false, false, false, false, false] rfl rfl (take_ofW HT_.out HW_.out (by kernel_rfl)) (fun _ _ _ h => h) (Or.inl ⟨by rfl, ?_⟩) hHeld ?_ ?_
  rotate_left
  · intro w' s0
    obtain ⟨s0, s1, s2⟩ := s0
    go_simp
    with_reducible rfl
  rotate_left
  · simp only [Act.put, List.setIfInBounds_toArray, List.set_cons_zero, List.set_cons_succ, i64_w, i32_w]
    rfl
  refine take_ (i := 8) (N := some 92) (v := ?_) (a' := ?_) #[true, true, true, true, true, true, true, true, true, false, false, false, false, false, false, false] rfl rfl (take_ofW HT_.out HW_.out (by kernel_rfl)) (fun _ _ _ h => h) (Or.inl ⟨by rfl, ?_⟩) hHeld ?_ ?_
  rotate_left
  · intro w' s0
    obtain ⟨s0, s1, s2⟩ := s0
    go_simp
    with_reducible rfl
  rotate_left
  · simp only [Act.put, List.setIfInBounds_toArray, List.set_cons_zero, List.set_cons_succ, i64_w, i32_w]
    rfl
  refine one_ (i := 9) (N := some 93) #[true, true, true, true, true, true, true, true, true, true, false, false, false, false, false, false] rfl rfl (one_of HT_.out (by kernel_rfl)) (by decide) (fun K hK => ?_)
  refine goes_ Try.func69 (by kernel_rfl) rfl #[.slice Ad data.length cd] (by rfl) rfl rfl (by first | rfl | (simp only [List.map_toArray, List.map_cons, List.map_nil]; first | done | rfl)) ?_
  refine (spec_l1Bytes.calls Ad cd data data _ (Kd.C_below HR.out HB.out) HC.out (by unfold spec_l1Bytes.f; rw [Option.bind_some, List.length_nil, if_pos (by have := HDL.out; omega), List.nil_append])).mono ?_
  rintro e w6 ⟨v, rfl, ho, hb⟩
  refine ⟨_, rfl, ?_⟩
  have HCD := Aside0.mk (Kd.R_lower ho HB.out.size)
  have HCB : Aside0 (∀ q, v.ownBlock = some q → N0 ≤ q) := ⟨fun q hq => Nat.le_trans HN0.out (Kd.R_base ho q hq)⟩
  have HS1 := Aside0.mk (Kd.S_elder' HS1.out (Kd.R_base ho) hb)
  have HS0 := Aside0.mk (Kd.S_below HS0.out hb)
  have HN0 : Aside0 (N0 ≤ w6.heap.size) := ⟨Nat.le_trans HN0.out hb.size⟩
  have BG := Aside0.mk (blk_below BG.out hb)
  have BP := Aside0.mk (blk_below BP.out hb)
  have HB := Aside0.mk (below_step HB.out hb)
  clear hb ho hHeld
  obtain ⟨Ac, cc, rfl⟩ := Kd.R_slice HCD.out
  refine hK.out _ _ (⟨(blk_cell BG.out 1).trans rfl, (blk_cell BP.out 1).trans rfl, (blk_cell BP.out 2).trans rfl⟩) (fun hHeld => ?_)
  clear hK K
  refine norm_ (a' := ?_) ?_ ?_
  rotate_left
  · show Act.put _ (some 93) _ = _
    simp only [Act.put, List.setIfInBounds_toArray, List.set_cons_zero, List.set_cons_succ, i64_w, i32_w]
    rfl
  refine pure_ (i := 10) (N := some 94) (v := ?_) (a' := ?_) #[true, true, true, true, true, true, true, true, true, true, true, false, false, false, false, false] rfl rfl (any_of HT_.out (by kernel_rfl)) (fun _ _ _ h => h) (Or.inl ⟨by rfl, ?_⟩) ?_ ?_
  rotate_left
  · intro w'
    go_simp
    with_reducible rfl
  rotate_left
  · simp only [Act.put, List.setIfInBounds_toArray, List.set_cons_zero, List.set_cons_succ, i64_w, i32_w]
    rfl
  refine one_ (i := 11) (N := some 95) #[true, true, true, true, true, true, true, true, true, true, true, true, false, false, false, false] rfl rfl (one_of HT_.out (by kernel_rfl)) (by decide) (fun K hK => ?_)
  refine value_ (w1 := ?_) (v := ?_) (by rfl) rfl ?_ ?_
  rotate_left 2
  · go_simp
    constructor
    · rfl
    · rfl
  refine hK.out _ _ (⟨(blk_cell (blk_alloc BG.out _) 1).trans rfl, (blk_cell (blk_alloc BP.out _) 1).trans rfl, (blk_cell (blk_alloc BP.out _) 2).trans rfl⟩) (fun hHeld => ?_)
  clear hK K
  refine norm_ (a' := ?_) ?_ ?_
  rotate_left
  · show Act.put _ (some 95) _ = _
    simp only [Act.put, List.setIfInBounds_toArray, List.set_cons_zero, List.set_cons_succ, i64_w, i32_w]
    rfl
  refine one_ (i := 12) (N := some 96) #[true, true, true, true, true, true, true, true, true, true, true, true, true, false, false, false] rfl rfl (one_of HT_.out (by kernel_rfl)) (by decide) (fun K hK => ?_)
  refine Kd.S_append_step k185 (w0 := w0) w0.heap.size (by rfl) (.tmp 88) (.tmp 95) 42 185 (.agg #[(.int .i64 0), (.slice none 0 0)]) 32 rfl Try.underlying42 info185 rfl (by decide) (by omega) (.slice A1 ps.length c1) ps (⟨at_, data⟩ : S185) [.int .i64 at_, .slice Ac data.length cc] (fun q => Q q ∨ N0 ≤ q) (fun q => some q = (.slice Ac data.length cc : Value).ownBlock) rfl rfl ?aP (fun q hq => ⟨.inr (HCB.out q hq.symm), ((Kd.R_apart' HCD.out (Kd.S_typed HS1.out) (by decide)).1 q hq.symm).2⟩) ?aF ?aO ?aB ?aS ?aL ?_
  (case aP => exact k185_mkM _ _ _ (⟨at_, data⟩ : S185) (Kd.R_tight rfl HCD.out))
  (case aB => exact HB.out)
  (case aF => exact (fun q hq => .inr (Nat.le_trans HN0.out hq)))
  (case aO => exact Kd.S_mono HS1.out (fun q hq => ⟨hq.1, fun e_ => hq.2 e_⟩))
  (case aS => exact HB.out.size)
  (case aL => have := HPS.out; omega)
  intro v7 w7 ho hb hg hat
  have BG := Aside0.mk (blk_grown BG.out hg (Kd.S_ne HS1.out BG.out (by decide)))
  have BP := Aside0.mk (blk_grown BP.out hg (Kd.S_ne HS1.out BP.out (by decide)))
  have HS0 := Aside0.mk (Kd.S_over' HS0.out (Kd.S_typed HS1.out) (by decide) hg)
  have HN0 : Aside0 (N0 ≤ w7.heap.size) := ⟨Nat.le_trans HN0.out hg.size⟩
  have HS1 := Aside0.mk ho
  have HB := Aside0.mk hb
  clear ho hb hg hat hHeld HCD
  obtain ⟨A6, c6, rfl⟩ := Kd.S_slice HS1.out
  refine hK.out _ _ (⟨(blk_cell BG.out 1).trans rfl, (blk_cell BP.out 1).trans rfl, (blk_cell BP.out 2).trans rfl⟩) (fun hHeld => ?_)
  clear hK K
  refine norm_ (a' := ?_) ?_ ?_
  rotate_left
  · show Act.put _ (some 96) _ = _
    simp only [Act.put, List.setIfInBounds_toArray, List.set_cons_zero, List.set_cons_succ, i64_w, i32_w]
    rfl
  refine pure_ (i := 13) (N := some 97) (v := ?_) (a' := ?_) #[true, true, true, true, true, true, true, true, true, true, true, true, true, true, false, false] rfl rfl (any_of HT_.out (by kernel_rfl)) (fun _ _ _ h => h) (Or.inl ⟨by rfl, ?_⟩) ?_ ?_
  rotate_left
  · intro w'
    go_simp
    with_reducible rfl
  rotate_left
  · simp only [Act.put, List.setIfInBounds_toArray, List.set_cons_zero, List.set_cons_succ, i64_w, i32_w]
    rfl
  refine pure_ (i := 14) (N := some 98) (v := ?_) (a' := ?_) #[true, true, true, true, true, true, true, true, true, true, true, true, true, true, true, false] rfl rfl (any_of HT_.out (by kernel_rfl)) (fun _ _ _ h => h) (Or.inl ⟨by rfl, ?_⟩) ?_ ?_
  rotate_left
  · intro w'
    go_simp
    with_reducible rfl
  rotate_left
  · simp only [Act.put, List.setIfInBounds_toArray, List.set_cons_zero, List.set_cons_succ, i64_w, i32_w]
    rfl
  refine last_ (i := 15) (N := none) #[true, true, true, true, true, true, true, true, true, true, true, true, true, true, true, true] rfl rfl (one_of HT_.out (by kernel_rfl)) (by decide) (fun K hK => ?_)
  refine store_blk_step (by rfl) rfl 42 (.tmp 98) (.tmp 96) rfl (off := 1) (u := .slice A6 (ps ++ [(⟨at_, data⟩ : S185)]).length c6) #[.slice A0 safe.length c0, .slice A6 (ps ++ [(⟨at_, data⟩ : S185)]).length c6] rfl rfl BG.out [.slice A6 (ps ++ [(⟨at_, data⟩ : S185)]).length c6] rfl (by kernel_rfl) (Nat.le_of_ble_eq_true rfl) rfl rfl ?_
  intro w10 hblk hgrw
  have HS1 := Aside0.mk (S_off HS1.out BG.out (by decide) hgrw)
  have HS0 := Aside0.mk (S_off HS0.out BG.out (by decide) hgrw)
  have HB := Aside0.mk (HB.out.grown hgrw HB.out.size (by intro q hq; cases hq; exact HG.out))
  have BG := Aside0.mk hblk
  clear hblk hgrw hHeld BP
  refine hK.out _ _ ?_
  clear hK K
  refine done_ (done_of HT_.out (by kernel_rfl)) ?_
  try clear hHeld
  go_wp2_with fail
  go_ret
  exact ⟨rfl, ⟨A0, c0, A6, c6, _, _, BG.out, ⟨fun q h1 h2 => h2.elim (HDJ.out q h1.1) (fun h3 => by have := h1.2; omega), HS0.out, HS1.out⟩, HG.out⟩, HB.out⟩
end Go.Proofs.Ytlopmffdebhpfaa.G

/-! ## CloneA -/
namespace Go.Proofs.Ytlopmffdebhpfaa.G
open Go.RowKit Go.Proofs.YtlopmffdebhpfaaW.PrintWords Go.Proofs.YtlopmffdebhpfaaW.PrintLast Go.Proofs.YtlopmffdebhpfaaW.PrintMore
set_option linter.unusedVariables false
set_option linter.unusedSimpArgs false

theorem impl_Disk_clone.copyf {l : List Int} (h : l.length ≤ 1048576) : slices_Clone_byte_byte.f l = some l := by
  unfold slices_Clone_byte_byte.f
  rw [if_pos (by omega)]
end Go.Proofs.Ytlopmffdebhpfaa.G

/-! ## CopyA -/
namespace Go.Proofs.Ytlopmffdebhpfaa.G
open Go.RowKit Go.Proofs.YtlopmffdebhpfaaW.PrintWords Go.Proofs.YtlopmffdebhpfaaW.PrintLast Go.Proofs.YtlopmffdebhpfaaW.PrintMore
set_option linter.unusedVariables false
set_option linter.unusedSimpArgs false

theorem spec_l1Copy.copyf {l : List Int} (h : l.length ≤ 1048576) : spec_l1Bytes.f l = some l := by
  unfold spec_l1Bytes.f
  rw [Option.bind_some, List.length_nil, if_pos (by omega), List.nil_append]
def spec_l1Copy.T5 : Bool × List (List Nat × List Nat) := (true, [([], []), ([0], [0]), ([], []), ([2], [2]), ([], []), ([3, 4], [3, 4]), ([5], [5]), ([6], [6]), ([7], [7]), ([1, 8, 7], [1, 8]), ([0, 1, 2, 3, 4, 5, 6, 7, 8, 9], []), ([10, 9, 9, 0, 1, 2, 3, 4, 5, 6, 7, 8, 9], [9, 10])])
def spec_l1Copy.B5 : List Nat := [0, 1, 0, 4, 0, 28, 60, 124, 252, 511, 1023, 2047]
theorem spec_l1Copy.tab5 : rtab .any (opsOf Try.f107 5) = spec_l1Copy.T5 := by kernel_rfl
theorem spec_l1Copy.bits5 : waitsOk spec_l1Copy.T5.2 spec_l1Copy.B5 = true := by kernel_rfl
def spec_l1Copy.T9 : Bool × List (List Nat × List Nat) := (true, [([], []), ([0], [0]), ([], []), ([2], [2]), ([], []), ([3, 4], [3, 4]), ([5], [5]), ([6], [6]), ([], []), ([8], [8]), ([], []), ([9, 10], [9, 10]), ([11], [11]), ([12], [12]), ([13], [13]), ([7, 14], [7, 14]), ([15], [15]), ([1, 16, 14], [1, 16]), ([0, 1, 2, 3, 4, 5, 6, 7, 8, 9, 10, 11, 12, 13, 14, 15, 16, 17], []), ([18, 17, 17, 0, 1, 2, 3, 4, 5, 6, 7, 8, 9, 10, 11, 12, 13, 14, 15, 16, 17], [17, 18])])
def spec_l1Copy.B9 : List Nat := [0, 1, 0, 4, 0, 28, 60, 124, 0, 256, 0, 1792, 3840, 7936, 16128, 32764, 65532, 131071, 262143, 524287]
theorem spec_l1Copy.tab9 : rtab .any (opsOf Try.f107 9) = spec_l1Copy.T9 := by kernel_rfl
theorem spec_l1Copy.bits9 : waitsOk spec_l1Copy.T9.2 spec_l1Copy.B9 = true := by kernel_rfl
set_option maxHeartbeats 8000000 in
set_option maxRecDepth 100000 in
theorem spec_l1Copy.apart (A0 : Option Addr) (c0 : Nat) (safe : List (List Int)) (A1 : Option Addr) (c1 : Nat) (ps : List S185) (w : World) (hr0 : Kd.C (Kd.slice 5 (Kd.int .u8)) w A0 safe.length safe) (hc0 : safe.length ≤ c0) (hr1 : Kd.C k185 w A1 ps.length ps) (hc1 : ps.length ≤ c1)
    (hl0 : safe.length ≤ 1048576) (hl1 : ps.length ≤ 1048576) (hb0 : ∀ l ∈ safe, l.length ≤ 1048576) (hb1 : ∀ p ∈ ps, p.f1.length ≤ 1048576) :
    Calls Try.prog 107 #[.agg #[.slice A0 safe.length c0, .slice A1 ps.length c1]] w fun e w' => ∃ v0 v1 : Value, ∃ P Q, e = .returned (.agg #[v0, v1]) ∧ IsDisk w' w.heap.size P Q v0 v1 safe ps ∧ Below w.heap.size w w' := by
  have hu44 := Try.underlying44
  have hu185 := Try.underlying185
  have HR0 := Aside0.mk hr0
  have HR1 := Aside0.mk hr1
  have HC0 := Aside0.mk hc0
  have HC1 := Aside0.mk hc1
  have HL0 := Aside0.mk hl0
  have HL1 := Aside0.mk hl1
  have HB0 := Aside0.mk hb0
  have HB1 := Aside0.mk hb1
  clear hr0 hr1 hc0 hc1 hl0 hl1 hb0 hb1
  go_enter Try.func107, Try.ntmps107
  go_wp2_with (first | ((with_reducible refine gate_dst (N := 1) rfl ?_); refine box_event ?hg (N := 1) ?hd (cs := #[.slice A0 safe.length c0, .slice A1 ps.length c1]) (t := 44) ?hr ?_; (case hd => rfl); (case hg => rfl); (case hr => first | (go_simp; done) | (go_simp; rfl)); intro gd hgr w1 hbox hbel; have BD := Aside0.mk hbox; have HB := Aside0.mk hbel; have hd0 : w1.cell? ⟨gd, 0, none⟩ = some (.slice A0 safe.length c0) := (blk_cell hbox 0).trans rfl; clear hbox hbel hgr) | ((with_reducible refine gate_dst (N := 2) rfl ?_); refine box_event ?hg (N := 2) ?hd (cs := #[.slice none 0 0, .slice none 0 0]) (t := 44) ?hr ?_; (case hd => rfl); (case hg => rfl); (case hr => first | (go_simp; done) | (go_simp; rfl)); intro gr hgr w2 hbox hbel; have BR := Aside0.mk hbox; have GRw : Aside0 (w.heap.size ≤ gr) := ⟨by rw [hgr]; exact HB.out.size⟩; have BD := Aside0.mk (blk_below BD.out hbel); have HB := Aside0.mk (below_step HB.out hbel); clear hbox hbel hgr) | ((with_reducible refine gate_dst (N := 3) rfl ?_); refine box_event ?hg (N := 3) ?hd (cs := #[.slice none 0 0, .slice none 0 0]) (t := 44) ?hr ?_; (case hd => rfl); (case hg => rfl); (case hr => first | (go_simp; done) | (go_simp; rfl)); intro go hgr w3 hbox hbel; have BO := Aside0.mk hbox; have GOw : Aside0 (w.heap.size ≤ go) := ⟨by rw [hgr]; exact HB.out.size⟩; have NDO : Aside0 (gd ≠ go) := ⟨by have := blk_lt BD.out; omega⟩; have NRO : Aside0 (gr ≠ go) := ⟨by have := blk_lt BR.out; omega⟩; have HSA := Aside0.mk (Kd.S_below HSA.out hbel); have HSI := Aside0.mk (Kd.S_below HSI.out hbel); have BD := Aside0.mk (blk_below BD.out hbel); have BR := Aside0.mk (blk_below BR.out hbel); have HB := Aside0.mk (below_step HB.out hbel); clear hbox hbel hgr) | ((with_reducible refine gate_dst (N := 6) rfl ?_); refine Kd.S_lit (Kd.slice 5 (Kd.int .u8)) _ 22 ?hg (N := 6) ?hd (xs := ([] : List (List Int))) (inner := []) (ok := fun _ => True) (okp := fun _ => True) ?hr ?hp (fun _ hk => hk) trivial (Below.refl _ _) (Nat.le_refl _) (by simp) ?_; (case hd => rfl); (case hg => rfl); (case hr => first | (go_simp; done) | (go_simp; rfl)); (case hp => exact (Reps.none _ _)); intro v4 w4 ho hbel _ _; obtain ⟨Aa, ca, rfl⟩ := Kd.S_slice ho; have HSA := Aside0.mk (Kd.S_lower ho HB.out.size); have BD := Aside0.mk (blk_below BD.out hbel); have BR := Aside0.mk (blk_below BR.out hbel); have HB := Aside0.mk (below_step HB.out hbel); clear ho hbel) | ((with_reducible refine gate_dst (N := 7) rfl ?_); refine Kd.S_lit k185 _ 185 ?hg (N := 7) ?hd (xs := ([] : List (S185))) (inner := []) (ok := fun _ => True) (okp := fun _ => True) ?hr ?hp (fun _ hk => hk) trivial (Below.refl _ _) (Nat.le_refl _) (by simp) ?_; (case hd => rfl); (case hg => rfl); (case hr => first | (go_simp; done) | (go_simp; rfl)); (case hp => exact (Reps.none _ _)); intro v4 w4 ho hbel _ _; obtain ⟨Ae, ce, rfl⟩ := Kd.S_slice ho; have HSI := Aside0.mk (Kd.S_lower ho HB.out.size); have HSA := Aside0.mk (Kd.S_below HSA.out hbel); have BD := Aside0.mk (blk_below BD.out hbel); have BR := Aside0.mk (blk_below BR.out hbel); have HB := Aside0.mk (below_step HB.out hbel); clear ho hbel) | ((with_reducible refine gate_ (.store 44 (.tmp 3) (.tmp 8)) rfl ?_); refine store_blk rfl rfl 44 (.tmp 3) (.tmp 8) rfl (off := 0) (u := .agg #[.slice Aa 0 ca, .slice Ae 0 ce]) #[.slice Aa 0 ca, .slice Ae 0 ce] rfl rfl BO.out [.slice Aa 0 ca, .slice Ae 0 ce] rfl (by kernel_rfl) (Nat.le_of_ble_eq_true rfl) rfl rfl ?_; intro w3b hblk hgrw; have HSA := Aside0.mk (S_off HSA.out BO.out (by decide) hgrw); have HSI := Aside0.mk (S_off HSI.out BO.out (by decide) hgrw); have BD := Aside0.mk (blk_grown BD.out hgrw (fun e => NDO.out (Option.some.inj e))); have BR := Aside0.mk (blk_grown BR.out hgrw (fun e => NRO.out (Option.some.inj e))); have HB := Aside0.mk (HB.out.grown hgrw HB.out.size (by intro q hq; cases hq; exact GOw.out)); have BO := Aside0.mk hblk; have hd0 : w3b.cell? ⟨gd, 0, none⟩ = some (.slice A0 safe.length c0) := (blk_cell BD.out 0).trans rfl; clear hblk hgrw))
  go_loopg [4] safe.length (fun gk v4 w' => ∃ (x : Int) (u0 : Value), v4 = .int .i64 x ∧ Aside0 (0 ≤ x ∧ (gk : Int) + x = (safe.length : Int)) ∧ Aside0 (Kd.S (Kd.slice 5 (Kd.int .u8)) 22 w' w.heap.size (fun _ => True) u0 (safe.take x.toNat)) ∧ Aside0 (Kd.S k185 185 w' w.heap.size (fun _ => True) (.slice Ae 0 ce) []) ∧ Aside0 (w'.heap[gd]? = some (.cells #[.slice A0 safe.length c0, .slice A1 ps.length c1] 44 (0, 0))) ∧ Aside0 (w'.heap[gr]? = some (.cells #[.slice none 0 0, .slice none 0 0] 44 (0, 0))) ∧ Aside0 (w'.heap[go]? = some (.cells #[u0, .slice Ae 0 ce] 44 (0, 0))) ∧ Aside0 (Below w.heap.size w w'))
  case atStart =>
    exact ⟨0, .slice Aa 0 ca, rfl, ⟨by omega⟩, ⟨by simpa using HSA.out⟩, HSI, BD, BR, BO, HB⟩
  case round =>
    clear HSI BD BR BO HB
    obtain ⟨x, u0, rfl, HXK, HS, HSI, BD, BR, BO, HB⟩ := hrel
    have hd0 : wr.cell? ⟨gd, 0, none⟩ = some (.slice A0 safe.length c0) := (blk_cell BD.out 0).trans rfl
    have hd1 : wr.cell? ⟨gd, 1, none⟩ = some (.slice A1 ps.length c1) := (blk_cell BD.out 1).trans rfl
    cases gk with
    | succ gk =>
      have p0 : 0 ≤ x := HXK.out.1
      have q0 : x < (safe.length : Int) := by have := HXK.out; omega
      have c4b0 : decide (x < (safe.length : Int)) = true := decide_eq_true q0
      have c4b1 : decide (0 ≤ x) = true := decide_eq_true p0
      obtain ⟨ad, A5, c5, e5, hx0, hl5, hi5⟩ := at_L2 HR0.out x p0 q0
      cases e5
      have HX0 := Aside0.mk hx0
      replace hx0 := (HB.out.cell (World.block_lt_of_cell? w _ hx0)).trans hx0
      have HI5 := Aside0.mk hi5
      have HL5 := Aside0.mk hl5
      have NF := Aside0.mk (show spec_l1Bytes.f (rd_L2 safe x) = some (rd_L2 safe x) from spec_l1Copy.copyf (HB0.out _ (getD_mem (z := []) p0 q0)))
      have HP0 := Aside0.mk p0
      have HQ0 := Aside0.mk q0
      clear hl5 hi5
      replace p0 := eq_true p0
      replace q0 := eq_true q0
      go_wp2_with fail
      refine start_ (n := 12) (S := fun w' => w'.cell? ⟨go, 0, none⟩ = some (u0) ∧ w'.cell? ⟨go, 1, none⟩ = some (.slice Ae 0 ce) ∧ w'.cell? ⟨gd, 0, none⟩ = some (.slice (some ad) safe.length c0) ∧ w'.cell? ⟨gd, 1, none⟩ = some (.slice A1 ps.length c1) ∧ w'.cell? (ad.add x.toNat) = some (.slice A5 (rd_L2 safe x).length c5)) (ds := [11]) #[false, false, false, false, false, false, false, false, false, false, false, false] (by kernel_rfl) rfl rfl (⟨(blk_cell BO.out 0).trans rfl, (blk_cell BO.out 1).trans rfl, (blk_cell BD.out 0).trans rfl, (blk_cell BD.out 1).trans rfl, hx0⟩) (fun hHeld => ?_); refine with_tabW spec_l1Copy.tab5 spec_l1Copy.bits5 (fun HT_ HW_ => ?_)
      have BD := Aside0.mk (blk_drew BD.out)
      have BR := Aside0.mk (blk_drew BR.out)
      have BO := Aside0.mk (blk_drew BO.out)
      have HB := Aside0.mk (below_drew1 HB.out)
      have HS := Aside0.mk (Kd.S_drew HS.out)
      have HSI := Aside0.mk (Kd.S_drew HSI.out)
      refine pure_ (i := 0) (N := some 16) (v := ?_) (a' := ?_) #[true, false, false, false, false, false, false, false, false, false, false, false] rfl rfl (any_of HT_.out (by kernel_rfl)) (fun _ _ _ h => h) (Or.inl ⟨by rfl, ?_⟩) ?_ ?_
      rotate_left
      · intro w'
        go_simp
        with_reducible rfl
      rotate_left
      · simp only [Act.put, List.setIfInBounds_toArray, List.set_cons_zero, List.set_cons_succ, i64_w, i32_w]
        rfl
      refine pure_ (i := 2) (N := some 18) (v := ?_) (a' := ?_) #[true, false, true, false, false, false, false, false, false, false, false, false] rfl rfl (any_of HT_.out (by kernel_rfl)) (fun _ _ _ h => h) (Or.inl ⟨by rfl, ?_⟩) ?_ ?_
      rotate_left
      · intro w'
        go_simp
        with_reducible rfl
      rotate_left
      · simp only [Act.put, List.setIfInBounds_toArray, List.set_cons_zero, List.set_cons_succ, i64_w, i32_w]
        rfl
      refine pure_ (i := 4) (N := some 20) (v := ?_) (a' := ?_) #[true, false, true, false, true, false, false, false, false, false, false, false] rfl rfl (any_of HT_.out (by kernel_rfl)) (fun _ _ _ h => h) (Or.inl ⟨by rfl, ?_⟩) ?_ ?_
      rotate_left
      · intro w'
        go_simp
        with_reducible rfl
      rotate_left
      · simp only [Act.put, List.setIfInBounds_toArray, List.set_cons_zero, List.set_cons_succ, i64_w, i32_w]
        rfl
      refine take_ (i := 1) (N := some 17) (v := ?_) (a' := ?_) #[true, true, true, false, true, false, false, false, false, false, false, false] rfl rfl (take_ofW HT_.out HW_.out (by kernel_rfl)) (fun _ _ _ h => h) (Or.inl ⟨by rfl, ?_⟩) hHeld ?_ ?_
      rotate_left
      · intro w' s0
        obtain ⟨s0, s1, s2, s3, s4⟩ := s0
        go_simp
        with_reducible rfl
      rotate_left
      · simp only [Act.put, List.setIfInBounds_toArray, List.set_cons_zero, List.set_cons_succ, i64_w, i32_w]
        rfl
      refine take_ (i := 3) (N := some 19) (v := ?_) (a' := ?_) #[true, true, true, true, true, false, false, false, false, false, false, false] rfl rfl (take_ofW HT_.out HW_.out (by kernel_rfl)) (fun _ _ _ h => h) (Or.inl ⟨by rfl, ?_⟩) hHeld ?_ ?_
      rotate_left
      · intro w' s0
        obtain ⟨s0, s1, s2, s3, s4⟩ := s0
        go_simp
        with_reducible rfl
      rotate_left
      · simp only [Act.put, List.setIfInBounds_toArray, List.set_cons_zero, List.set_cons_succ, i64_w, i32_w]
        rfl
      refine pure_ (i := 5) (N := some 21) (v := ?_) (a' := ?_) #[true, true, true, true, true, true, false, false, false, false, false, false] rfl rfl (any_of HT_.out (by kernel_rfl)) (fun _ _ _ h => h) (Or.inl ⟨by rfl, ?_⟩) ?_ ?_
      rotate_left
      · intro w'
        go_simp
        with_reducible rfl
      rotate_left
      · simp only [Act.put, List.setIfInBounds_toArray, List.set_cons_zero, List.set_cons_succ, i64_w, i32_w]
        rfl
      refine take_ (i := 6) (N := some 22) (v := ?_) (a' := ?_) #[true, true, true, true, true, true, true, false, false, false, false, false] rfl rfl (take_ofW HT_.out HW_.out (by kernel_rfl)) (fun _ _ _ h => h) (Or.inl ⟨by rfl, ?_⟩) hHeld ?_ ?_
      rotate_left
      · intro w' s0
        obtain ⟨s0, s1, s2, s3, s4⟩ := s0
        go_simp
        with_reducible rfl
      rotate_left
      · simp only [Act.put, List.setIfInBounds_toArray, List.set_cons_zero, List.set_cons_succ, i64_w, i32_w]
        rfl
      refine one_ (i := 7) (N := some 23) #[true, true, true, true, true, true, true, true, false, false, false, false] rfl rfl (one_of HT_.out (by kernel_rfl)) (by decide) (fun K hK => ?_)
      refine goes_ Try.func69 (by kernel_rfl) rfl #[.slice A5 (rd_L2 safe x).length c5] (by rfl) rfl rfl (by first | rfl | (simp only [List.map_toArray, List.map_cons, List.map_nil]; first | done | rfl)) ?_
      refine (spec_l1Bytes.calls A5 c5 (rd_L2 safe x) _ _ (Kd.C_below HI5.out HB.out) HL5.out NF.out).mono ?_
      rintro e w5 ⟨v, rfl, ho, hb⟩
      refine ⟨_, rfl, ?_⟩
      have HC := Aside0.mk (Kd.R_lower ho HB.out.size)
      have HS := Aside0.mk (Kd.S_elder' HS.out (Kd.R_base ho) hb)
      have HSI := Aside0.mk (Kd.S_below HSI.out hb)
      have BD := Aside0.mk (blk_below BD.out hb)
      have BR := Aside0.mk (blk_below BR.out hb)
      have BO := Aside0.mk (blk_below BO.out hb)
      have HB := Aside0.mk (below_step HB.out hb)
      replace hx0 := (hb.cell (World.block_lt_of_cell? _ _ hx0)).trans hx0
      clear hb ho hHeld
      obtain ⟨Ac, cc, rfl⟩ := Kd.R_slice HC.out
      refine hK.out _ _ (⟨(blk_cell BO.out 0).trans rfl, (blk_cell BO.out 1).trans rfl, (blk_cell BD.out 0).trans rfl, (blk_cell BD.out 1).trans rfl, hx0⟩) (fun hHeld => ?_)
      clear hK K
      refine norm_ (a' := ?_) ?_ ?_
      rotate_left
      · show Act.put _ (some 23) _ = _
        simp only [Act.put, List.setIfInBounds_toArray, List.set_cons_zero, List.set_cons_succ, i64_w, i32_w]
        rfl
      refine one_ (i := 8) (N := some 24) #[true, true, true, true, true, true, true, true, true, false, false, false] rfl rfl (one_of HT_.out (by kernel_rfl)) (by decide) (fun K hK => ?_)
      refine value_ (w1 := ?_) (v := ?_) (by rfl) rfl ?_ ?_
      rotate_left 2
      · go_simp
        constructor
        · rfl
        · rfl
      refine hK.out _ _ (⟨(blk_cell (blk_alloc BO.out _) 0).trans rfl, (blk_cell (blk_alloc BO.out _) 1).trans rfl, (blk_cell (blk_alloc BD.out _) 0).trans rfl, (blk_cell (blk_alloc BD.out _) 1).trans rfl, (((below_alloc (Below.refl _ _) _ : Below _ w5 _).cell (World.block_lt_of_cell? _ _ hx0)).trans hx0)⟩) (fun hHeld => ?_)
      clear hK K
      refine norm_ (a' := ?_) ?_ ?_
      rotate_left
      · show Act.put _ (some 24) _ = _
        simp only [Act.put, List.setIfInBounds_toArray, List.set_cons_zero, List.set_cons_succ, i64_w, i32_w]
        rfl
      refine one_ (i := 9) (N := some 25) #[true, true, true, true, true, true, true, true, true, true, false, false] rfl rfl (one_of HT_.out (by kernel_rfl)) (by decide) (fun K hK => ?_)
      refine Kd.S_append_step (Kd.slice 5 (Kd.int .u8)) (w0 := w) w.heap.size (by rfl) (.tmp 17) (.tmp 24) 36 22 (.slice none 0 0) 24 rfl Try.underlying36 info22 rfl (by decide) (by omega) u0 (safe.take x.toNat) (rd_L2 safe x) [.slice Ac (rd_L2 safe x).length cc] (fun _ => True) (fun q => some q = (.slice Ac (rd_L2 safe x).length cc : Value).ownBlock) rfl rfl ?aP (fun q hq => ⟨trivial, ((Kd.R_apart' HC.out (Kd.S_typed HS.out) (by decide)).1 q hq.symm).2⟩) ?aF ?aO ?aB ?aS ?aL ?_
      (case aP => exact Kd.M_row (Kd.R_tight rfl HC.out))
      (case aB => exact HB.out)
      (case aF => exact (fun _ _ => trivial))
      (case aO => exact Kd.S_mono HS.out (fun q hq => ⟨trivial, fun e_ => hq.2 e_⟩))
      (case aS => exact HB.out.size)
      (case aL => rw [List.length_take]; have := HL0.out; omega)
      intro v6 w6 ho hb hg hat
      have BD := Aside0.mk (blk_grown BD.out hg (Kd.S_ne HS.out BD.out (by decide)))
      have BR := Aside0.mk (blk_grown BR.out hg (Kd.S_ne HS.out BR.out (by decide)))
      have BO := Aside0.mk (blk_grown BO.out hg (Kd.S_ne HS.out BO.out (by decide)))
      replace hx0 := (hb.cell (World.block_lt_of_cell? w _ HX0.out)).trans HX0.out
      have HSI := Aside0.mk (Kd.S_over' HSI.out (Kd.S_typed HS.out) (by decide) hg)
      have HS := Aside0.mk ho
      have HB := Aside0.mk hb
      clear ho hb hg hat hHeld HC
      obtain ⟨A6, c6, rfl⟩ := Kd.S_slice HS.out
      refine hK.out _ _ (⟨(blk_cell BO.out 0).trans rfl, (blk_cell BO.out 1).trans rfl, (blk_cell BD.out 0).trans rfl, (blk_cell BD.out 1).trans rfl, hx0⟩) (fun hHeld => ?_)
      clear hK K
      refine norm_ (a' := ?_) ?_ ?_
      rotate_left
      · show Act.put _ (some 25) _ = _
        simp only [Act.put, List.setIfInBounds_toArray, List.set_cons_zero, List.set_cons_succ, i64_w, i32_w]
        rfl
      refine pure_ (i := 10) (N := some 26) (v := ?_) (a' := ?_) #[true, true, true, true, true, true, true, true, true, true, true, false] rfl rfl (any_of HT_.out (by kernel_rfl)) (fun _ _ _ h => h) (Or.inl ⟨by rfl, ?_⟩) ?_ ?_
      rotate_left
      · intro w'
        go_simp
        with_reducible rfl
      rotate_left
      · simp only [Act.put, List.setIfInBounds_toArray, List.set_cons_zero, List.set_cons_succ, i64_w, i32_w]
        rfl
      refine last_ (i := 11) (N := none) #[true, true, true, true, true, true, true, true, true, true, true, true] rfl rfl (one_of HT_.out (by kernel_rfl)) (by decide) (fun K hK => ?_)
      refine store_blk_step (by rfl) rfl 36 (.tmp 26) (.tmp 25) rfl (off := 0) (u := .slice A6 ((safe.take x.toNat) ++ [(rd_L2 safe x)]).length c6) #[.slice A6 ((safe.take x.toNat) ++ [(rd_L2 safe x)]).length c6, .slice Ae 0 ce] rfl rfl BO.out [.slice A6 ((safe.take x.toNat) ++ [(rd_L2 safe x)]).length c6] rfl (by kernel_rfl) (Nat.le_of_ble_eq_true rfl) rfl rfl ?_
      intro w7 hblk hgrw
      have HS := Aside0.mk (S_off HS.out BO.out (by decide) hgrw)
      have HSI := Aside0.mk (S_off HSI.out BO.out (by decide) hgrw)
      have BD := Aside0.mk (blk_grown BD.out hgrw (fun e => NDO.out (Option.some.inj e)))
      have BR := Aside0.mk (blk_grown BR.out hgrw (fun e => NRO.out (Option.some.inj e)))
      have HB := Aside0.mk (HB.out.grown hgrw HB.out.size (by intro q hq; cases hq; exact GOw.out))
      have BO := Aside0.mk hblk
      clear hblk hgrw hHeld
      refine hK.out _ _ ?_
      clear hK K
      refine done_ (done_of HT_.out (by kernel_rfl)) ?_
      try clear hHeld
      clear hd0 hd1 hx0
      go_wp2_with fail
      go_roundg gk
      case measure => omega
      case rel =>
        have hw1 : wrap64 (x + 1) = x + 1 := by have := HP0.out; have := HQ0.out; have := HL0.out; unfold wrap64; omega
        exact ⟨x + 1, _, by first | rfl | (rw [hw1]), ⟨by have := HXK.out; omega⟩, ⟨by rw [take_snoc (z := []) HP0.out HQ0.out]; exact HS.out⟩, HSI, BD, BR, BO, HB⟩
    | zero =>
      have hx : x = (safe.length : Int) := by have := HXK.out; omega
      subst hx
      have c4b0 : decide ((safe.length : Int) < (safe.length : Int)) = false := decide_eq_false (by omega)
      have hs := HS.out
      rw [Int.toNat_natCast, List.take_length] at hs
      obtain ⟨N0, hN0⟩ : ∃ N, N = wr.heap.size := ⟨_, rfl⟩
      have HS0 := Aside0.mk (Kd.S_mono (Kd.S_bound hs) (ok' := fun q => q < N0) (fun q hq => by have := hq.2.2.1; omega))
      have HS0 := Aside0.mk (Kd.S_mono (Kd.S_apart' HS0.out (Kd.S_typed HSI.out) (by decide)) (ok' := fun q => q < N0 ∧ some q ≠ (.slice Ae 0 ce : Value).ownBlock) (fun q hq => hq))
      have HS1z := Aside0.mk (Kd.S_mono (S_nil_own HSI.out) (ok' := fun q => N0 ≤ q ∨ some q = (.slice Ae 0 ce : Value).ownBlock) (fun q hq => .inr hq))
      have HN0 : Aside0 (N0 ≤ wr.heap.size) := ⟨Nat.le_of_eq hN0⟩
      clear hs hN0 HS
      go_wp2_with fail
      go_loopg [5] ps.length (fun gk v5 w' => ∃ (x : Int) (u1 : Value), v5 = .int .i64 x ∧ Aside0 (0 ≤ x ∧ (gk : Int) + x = (ps.length : Int)) ∧ Aside0 (Kd.S (Kd.slice 5 (Kd.int .u8)) 22 w' w.heap.size (fun q => q < N0 ∧ some q ≠ (.slice Ae 0 ce : Value).ownBlock) u0 safe) ∧ Aside0 (Kd.S k185 185 w' w.heap.size (fun q => N0 ≤ q ∨ some q = (.slice Ae 0 ce : Value).ownBlock) u1 (ps.take x.toNat)) ∧ Aside0 (N0 ≤ w'.heap.size) ∧ Aside0 (w'.heap[gd]? = some (.cells #[.slice A0 safe.length c0, .slice A1 ps.length c1] 44 (0, 0))) ∧ Aside0 (w'.heap[gr]? = some (.cells #[.slice none 0 0, .slice none 0 0] 44 (0, 0))) ∧ Aside0 (w'.heap[go]? = some (.cells #[u0, u1] 44 (0, 0))) ∧ Aside0 (Below w.heap.size w w'))
      case atStart =>
        exact ⟨0, .slice Ae 0 ce, rfl, ⟨by omega⟩, HS0, ⟨by simpa using HS1z.out⟩, HN0, BD, BR, BO, HB⟩
      case round =>
        clear BD BR BO HB HS0 HN0 hd0 hd1
        obtain ⟨x, u1, rfl, HXK, HS0, HS1, HN0, BD, BR, BO, HB⟩ := hrel
        have hd0 : wr.cell? ⟨gd, 0, none⟩ = some (.slice A0 safe.length c0) := (blk_cell BD.out 0).trans rfl
        have hd1 : wr.cell? ⟨gd, 1, none⟩ = some (.slice A1 ps.length c1) := (blk_cell BD.out 1).trans rfl
        cases gk with
        | succ gk =>
          have p0 : 0 ≤ x := HXK.out.1
          have q0 : x < (ps.length : Int) := by have := HXK.out; omega
          have c4b2 : decide (x < (ps.length : Int)) = true := decide_eq_true q0
          have c4b3 : decide (0 ≤ x) = true := decide_eq_true p0
          obtain ⟨ad, A5, c5, e5, hx0, hx1, hl5, hi5⟩ := at_T185 HR1.out x p0 q0
          cases e5
          have HX0 := Aside0.mk hx0
          have HX1 := Aside0.mk hx1
          replace hx0 := (HB.out.cell (World.block_lt_of_cell? w _ hx0)).trans hx0
          replace hx1 := (HB.out.cell (World.block_lt_of_cell? w _ hx1)).trans hx1
          have HI5 := Aside0.mk hi5
          have HL5 := Aside0.mk hl5
          have NF := Aside0.mk (show spec_l1Bytes.f (rd_T185 ps x).f1 = some (rd_T185 ps x).f1 from spec_l1Copy.copyf (HB1.out _ (getD_mem (z := z185) p0 q0)))
          have HP0 := Aside0.mk p0
          have HQ0 := Aside0.mk q0
          clear hl5 hi5
          replace p0 := eq_true p0
          replace q0 := eq_true q0
          go_wp2_with fail
          refine start_ (n := 20) (S := fun w' => w'.cell? ⟨go, 0, none⟩ = some (u0) ∧ w'.cell? ⟨go, 1, none⟩ = some (u1) ∧ w'.cell? ⟨gd, 0, none⟩ = some (.slice A0 safe.length c0) ∧ w'.cell? ⟨gd, 1, none⟩ = some (.slice (some ad) ps.length c1) ∧ w'.cell? (ad.add (x.toNat * 2)) = some (.int .i64 (rd_T185 ps x).f0) ∧ w'.cell? ⟨(ad.add (x.toNat * 2)).block, (ad.add (x.toNat * 2)).off + 1, none⟩ = some (.slice A5 (rd_T185 ps x).f1.length c5)) (ds := [19]) #[false, false, false, false, false, false, false, false, false, false, false, false, false, false, false, false, false, false, false, false] (by kernel_rfl) rfl rfl (⟨(blk_cell BO.out 0).trans rfl, (blk_cell BO.out 1).trans rfl, (blk_cell BD.out 0).trans rfl, (blk_cell BD.out 1).trans rfl, hx0, hx1⟩) (fun hHeld => ?_); refine with_tabW spec_l1Copy.tab9 spec_l1Copy.bits9 (fun HT_ HW_ => ?_)
          have BD := Aside0.mk (blk_drew BD.out)
          have BR := Aside0.mk (blk_drew BR.out)
          have BO := Aside0.mk (blk_drew BO.out)
          have HB := Aside0.mk (below_drew1 HB.out)
          have HS0 := Aside0.mk (Kd.S_drew HS0.out)
          have HS1 := Aside0.mk (Kd.S_drew HS1.out)
          refine pure_ (i := 0) (N := some 34) (v := ?_) (a' := ?_) #[true, false, false, false, false, false, false, false, false, false, false, false, false, false, false, false, false, false, false, false] rfl rfl (any_of HT_.out (by kernel_rfl)) (fun _ _ _ h => h) (Or.inl ⟨by rfl, ?_⟩) ?_ ?_
          rotate_left
          · intro w'
            go_simp
            with_reducible rfl
          rotate_left
          · simp only [Act.put, List.setIfInBounds_toArray, List.set_cons_zero, List.set_cons_succ, i64_w, i32_w]
            rfl
          refine pure_ (i := 2) (N := some 36) (v := ?_) (a' := ?_) #[true, false, true, false, false, false, false, false, false, false, false, false, false, false, false, false, false, false, false, false] rfl rfl (any_of HT_.out (by kernel_rfl)) (fun _ _ _ h => h) (Or.inl ⟨by rfl, ?_⟩) ?_ ?_
          rotate_left
          · intro w'
            go_simp
            with_reducible rfl
          rotate_left
          · simp only [Act.put, List.setIfInBounds_toArray, List.set_cons_zero, List.set_cons_succ, i64_w, i32_w]
            rfl
          refine pure_ (i := 4) (N := some 38) (v := ?_) (a' := ?_) #[true, false, true, false, true, false, false, false, false, false, false, false, false, false, false, false, false, false, false, false] rfl rfl (any_of HT_.out (by kernel_rfl)) (fun _ _ _ h => h) (Or.inl ⟨by rfl, ?_⟩) ?_ ?_
          rotate_left
          · intro w'
            go_simp
            with_reducible rfl
          rotate_left
          · simp only [Act.put, List.setIfInBounds_toArray, List.set_cons_zero, List.set_cons_succ, i64_w, i32_w]
            rfl
          refine pure_ (i := 8) (N := some 42) (v := ?_) (a' := ?_) #[true, false, true, false, true, false, false, false, true, false, false, false, false, false, false, false, false, false, false, false] rfl rfl (any_of HT_.out (by kernel_rfl)) (fun _ _ _ h => h) (Or.inl ⟨by rfl, ?_⟩) ?_ ?_
          rotate_left
          · intro w'
            go_simp
            with_reducible rfl
          rotate_left
          · simp only [Act.put, List.setIfInBounds_toArray, List.set_cons_zero, List.set_cons_succ, i64_w, i32_w]
            rfl
          refine pure_ (i := 10) (N := some 44) (v := ?_) (a' := ?_) #[true, false, true, false, true, false, false, false, true, false, true, false, false, false, false, false, false, false, false, false] rfl rfl (any_of HT_.out (by kernel_rfl)) (fun _ _ _ h => h) (Or.inl ⟨by rfl, ?_⟩) ?_ ?_
          rotate_left
          · intro w'
            go_simp
            with_reducible rfl
          rotate_left
          · simp only [Act.put, List.setIfInBounds_toArray, List.set_cons_zero, List.set_cons_succ, i64_w, i32_w]
            rfl
          refine take_ (i := 1) (N := some 35) (v := ?_) (a' := ?_) #[true, true, true, false, true, false, false, false, true, false, true, false, false, false, false, false, false, false, false, false] rfl rfl (take_ofW HT_.out HW_.out (by kernel_rfl)) (fun _ _ _ h => h) (Or.inl ⟨by rfl, ?_⟩) hHeld ?_ ?_
          rotate_left
          · intro w' s0
            obtain ⟨s0, s1, s2, s3, s4, s5⟩ := s0
            go_simp
            with_reducible rfl
          rotate_left
          · simp only [Act.put, List.setIfInBounds_toArray, List.set_cons_zero, List.set_cons_succ, i64_w, i32_w]
            rfl
          refine take_ (i := 3) (N := some 37) (v := ?_) (a' := ?_) #[true, true, true, true, true, false, false, false, true, false, true, false, false, false, false, false, false, false, false, false] rfl rfl (take_ofW HT_.out HW_.out (by kernel_rfl)) (fun _ _ _ h => h) (Or.inl ⟨by rfl, ?_⟩) hHeld ?_ ?_
          rotate_left
          · intro w' s0
            obtain ⟨s0, s1, s2, s3, s4, s5⟩ := s0
            go_simp
            with_reducible rfl
          rotate_left
          · simp only [Act.put, List.setIfInBounds_toArray, List.set_cons_zero, List.set_cons_succ, i64_w, i32_w]
            rfl
          refine take_ (i := 9) (N := some 43) (v := ?_) (a' := ?_) #[true, true, true, true, true, false, false, false, true, true, true, false, false, false, false, false, false, false, false, false] rfl rfl (take_ofW HT_.out HW_.out (by kernel_rfl)) (fun _ _ _ h => h) (Or.inl ⟨by rfl, ?_⟩) hHeld ?_ ?_
          rotate_left
          · intro w' s0
            obtain ⟨s0, s1, s2, s3, s4, s5⟩ := s0
            go_simp
            with_reducible rfl
          rotate_left
          · simp only [Act.put, List.setIfInBounds_toArray, List.set_cons_zero, List.set_cons_succ, i64_w, i32_w]
            rfl
          refine pure_ (i := 5) (N := some 39) (v := ?_) (a' := ?_) #[true, true, true, true, true, true, false, false, true, true, true, false, false, false, false, false, false, false, false, false] rfl rfl (any_of HT_.out (by kernel_rfl)) (fun _ _ _ h => h) (Or.inl ⟨by rfl, ?_⟩) ?_ ?_
          rotate_left
          · intro w'
            go_simp
            with_reducible rfl
          rotate_left
          · simp only [Act.put, List.setIfInBounds_toArray, List.set_cons_zero, List.set_cons_succ, i64_w, i32_w]
            rfl
          refine pure_ (i := 11) (N := some 45) (v := ?_) (a' := ?_) #[true, true, true, true, true, true, false, false, true, true, true, true, false, false, false, false, false, false, false, false] rfl rfl (any_of HT_.out (by kernel_rfl)) (fun _ _ _ h => h) (Or.inl ⟨by rfl, ?_⟩) ?_ ?_
          rotate_left
          · intro w'
            go_simp
            with_reducible rfl
          rotate_left
          · simp only [Act.put, List.setIfInBounds_toArray, List.set_cons_zero, List.set_cons_succ, i64_w, i32_w]
            rfl
          refine pure_ (i := 6) (N := some 40) (v := ?_) (a' := ?_) #[true, true, true, true, true, true, true, false, true, true, true, true, false, false, false, false, false, false, false, false] rfl rfl (any_of HT_.out (by kernel_rfl)) (fun _ _ _ h => h) (Or.inl ⟨by rfl, ?_⟩) ?_ ?_
          rotate_left
          · intro w'
            go_simp
            with_reducible rfl
          rotate_left
          · simp only [Act.put, List.setIfInBounds_toArray, List.set_cons_zero, List.set_cons_succ, i64_w, i32_w]
            rfl
          refine pure_ (i := 12) (N := some 46) (v := ?_) (a' := ?_) #[true, true, true, true, true, true, true, false, true, true, true, true, true, false, false, false, false, false, false, false] rfl rfl (any_of HT_.out (by kernel_rfl)) (fun _ _ _ h => h) (Or.inl ⟨by rfl, ?_⟩) ?_ ?_
          rotate_left
          · intro w'
            go_simp
            with_reducible rfl
          rotate_left
          · simp only [Act.put, List.setIfInBounds_toArray, List.set_cons_zero, List.set_cons_succ, i64_w, i32_w]
            rfl
          refine take_ (i := 7) (N := some 41) (v := ?_) (a' := ?_) #[true, true, true, true, true, true, true, true, true, true, true, true, true, false, false, false, false, false, false, false] rfl rfl (take_ofW HT_.out HW_.out (by kernel_rfl)) (fun _ _ _ h => h) (Or.inl ⟨by rfl, ?_⟩) hHeld ?_ ?_
          rotate_left
          · intro w' s0
            obtain ⟨s0, s1, s2, s3, s4, s5⟩ := s0
            go_simp
            with_reducible rfl
          rotate_left
          · simp only [Act.put, List.setIfInBounds_toArray, List.set_cons_zero, List.set_cons_succ, i64_w, i32_w]
            rfl
          refine take_ (i := 13) (N := some 47) (v := ?_) (a' := ?_) #[true, true, true, true, true, true, true, true, true, true, true, true, true, true, false, false, false, false, false, false] rfl rfl (take_ofW HT_.out HW_.out (by kernel_rfl)) (fun _ _ _ h => h) (Or.inl ⟨by rfl, ?_⟩) hHeld ?_ ?_
          rotate_left
          · intro w' s0
            obtain ⟨s0, s1, s2, s3, s4, s5⟩ := s0
            go_simp
            with_reducible rfl
          rotate_left
          · simp only [Act.put, List.setIfInBounds_toArray, List.set_cons_zero, List.set_cons_succ, i64_w, i32_w]
            rfl
          refine one_ (i := 14) (N := some 48) #[true, true, true, true, true, true, true, true, true, true, true, true, true, true, true, false, false, false, false, false] rfl rfl (one_of HT_.out (by kernel_rfl)) (by decide) (fun K hK => ?_)
          refine goes_ Try.func69 (by kernel_rfl) rfl #[.slice A5 (rd_T185 ps x).f1.length c5] (by rfl) rfl rfl (by first | rfl | (simp only [List.map_toArray, List.map_cons, List.map_nil]; first | done | rfl)) ?_
          refine (spec_l1Bytes.calls A5 c5 (rd_T185 ps x).f1 _ _ (Kd.C_below HI5.out HB.out) HL5.out NF.out).mono ?_
          rintro e w5 ⟨v, rfl, ho, hb⟩
          refine ⟨_, rfl, ?_⟩
          have HC := Aside0.mk (Kd.R_lower ho HB.out.size)
          have HCB : Aside0 (∀ q, v.ownBlock = some q → N0 ≤ q) := ⟨fun q hq => Nat.le_trans HN0.out (Kd.R_base ho q hq)⟩
          have HS1 := Aside0.mk (Kd.S_elder' HS1.out (Kd.R_base ho) hb)
          have HS0 := Aside0.mk (Kd.S_below HS0.out hb)
          have HN0 : Aside0 (N0 ≤ w5.heap.size) := ⟨Nat.le_trans HN0.out hb.size⟩
          have BD := Aside0.mk (blk_below BD.out hb)
          have BR := Aside0.mk (blk_below BR.out hb)
          have BO := Aside0.mk (blk_below BO.out hb)
          have HB := Aside0.mk (below_step HB.out hb)
          replace hx0 := (hb.cell (World.block_lt_of_cell? _ _ hx0)).trans hx0
          replace hx1 := (hb.cell (World.block_lt_of_cell? _ _ hx1)).trans hx1
          clear hb ho hHeld
          obtain ⟨Ac, cc, rfl⟩ := Kd.R_slice HC.out
          refine hK.out _ _ (⟨(blk_cell BO.out 0).trans rfl, (blk_cell BO.out 1).trans rfl, (blk_cell BD.out 0).trans rfl, (blk_cell BD.out 1).trans rfl, hx0, hx1⟩) (fun hHeld => ?_)
          clear hK K
          refine norm_ (a' := ?_) ?_ ?_
          rotate_left
          · show Act.put _ (some 48) _ = _
            simp only [Act.put, List.setIfInBounds_toArray, List.set_cons_zero, List.set_cons_succ, i64_w, i32_w]
            rfl
          refine pure_ (i := 15) (N := some 49) (v := ?_) (a' := ?_) #[true, true, true, true, true, true, true, true, true, true, true, true, true, true, true, true, false, false, false, false] rfl rfl (any_of HT_.out (by kernel_rfl)) (fun _ _ _ h => h) (Or.inl ⟨by rfl, ?_⟩) ?_ ?_
          rotate_left
          · intro w'
            go_simp
            with_reducible rfl
          rotate_left
          · simp only [Act.put, List.setIfInBounds_toArray, List.set_cons_zero, List.set_cons_succ, i64_w, i32_w]
            rfl
          refine one_ (i := 16) (N := some 50) #[true, true, true, true, true, true, true, true, true, true, true, true, true, true, true, true, true, false, false, false] rfl rfl (one_of HT_.out (by kernel_rfl)) (by decide) (fun K hK => ?_)
          refine value_ (w1 := ?_) (v := ?_) (by rfl) rfl ?_ ?_
          rotate_left 2
          · go_simp
            constructor
            · rfl
            · rfl
          refine hK.out _ _ (⟨(blk_cell (blk_alloc BO.out _) 0).trans rfl, (blk_cell (blk_alloc BO.out _) 1).trans rfl, (blk_cell (blk_alloc BD.out _) 0).trans rfl, (blk_cell (blk_alloc BD.out _) 1).trans rfl, (((below_alloc (Below.refl _ _) _ : Below _ w5 _).cell (World.block_lt_of_cell? _ _ hx0)).trans hx0), (((below_alloc (Below.refl _ _) _ : Below _ w5 _).cell (World.block_lt_of_cell? _ _ hx1)).trans hx1)⟩) (fun hHeld => ?_)
          clear hK K
          refine norm_ (a' := ?_) ?_ ?_
          rotate_left
          · show Act.put _ (some 50) _ = _
            simp only [Act.put, List.setIfInBounds_toArray, List.set_cons_zero, List.set_cons_succ, i64_w, i32_w]
            rfl
          refine one_ (i := 17) (N := some 51) #[true, true, true, true, true, true, true, true, true, true, true, true, true, true, true, true, true, true, false, false] rfl rfl (one_of HT_.out (by kernel_rfl)) (by decide) (fun K hK => ?_)
          refine Kd.S_append_step k185 (w0 := w) w.heap.size (by rfl) (.tmp 35) (.tmp 50) 42 185 (.agg #[(.int .i64 0), (.slice none 0 0)]) 32 rfl Try.underlying42 info185 rfl (by decide) (by omega) u1 (ps.take x.toNat) (rd_T185 ps x) [.int .i64 (rd_T185 ps x).f0, .slice Ac (rd_T185 ps x).f1.length cc] (fun q => N0 ≤ q ∨ some q = (.slice Ae 0 ce : Value).ownBlock) (fun q => some q = (.slice Ac (rd_T185 ps x).f1.length cc : Value).ownBlock) rfl rfl ?aP (fun q hq => ⟨Or.inl (HCB.out q hq.symm), ((Kd.R_apart' HC.out (Kd.S_typed HS1.out) (by decide)).1 q hq.symm).2⟩) ?aF ?aO ?aB ?aS ?aL ?_
          (case aP => exact k185_mkM _ _ _ (rd_T185 ps x) (Kd.R_tight rfl HC.out))
          (case aB => exact HB.out)
          (case aF => exact (fun q hq => Or.inl (Nat.le_trans HN0.out hq)))
          (case aO => exact Kd.S_mono HS1.out (fun q hq => ⟨hq.1, fun e_ => hq.2 e_⟩))
          (case aS => exact HB.out.size)
          (case aL => rw [List.length_take]; have := HL1.out; omega)
          intro v6 w6 ho hb hg hat
          have BD := Aside0.mk (blk_grown BD.out hg (Kd.S_ne HS1.out BD.out (by decide)))
          have BR := Aside0.mk (blk_grown BR.out hg (Kd.S_ne HS1.out BR.out (by decide)))
          have BO := Aside0.mk (blk_grown BO.out hg (Kd.S_ne HS1.out BO.out (by decide)))
          replace hx0 := (hb.cell (World.block_lt_of_cell? w _ HX0.out)).trans HX0.out
          replace hx1 := (hb.cell (World.block_lt_of_cell? w _ HX1.out)).trans HX1.out
          have HS0 := Aside0.mk (Kd.S_over' HS0.out (Kd.S_typed HS1.out) (by decide) hg)
          have HN0 : Aside0 (N0 ≤ w6.heap.size) := ⟨Nat.le_trans HN0.out hg.size⟩
          have HS1 := Aside0.mk ho
          have HB := Aside0.mk hb
          clear ho hb hg hat hHeld HC
          obtain ⟨A6, c6, rfl⟩ := Kd.S_slice HS1.out
          refine hK.out _ _ (⟨(blk_cell BO.out 0).trans rfl, (blk_cell BO.out 1).trans rfl, (blk_cell BD.out 0).trans rfl, (blk_cell BD.out 1).trans rfl, hx0, hx1⟩) (fun hHeld => ?_)
          clear hK K
          refine norm_ (a' := ?_) ?_ ?_
          rotate_left
          · show Act.put _ (some 51) _ = _
            simp only [Act.put, List.setIfInBounds_toArray, List.set_cons_zero, List.set_cons_succ, i64_w, i32_w]
            rfl
          refine pure_ (i := 18) (N := some 52) (v := ?_) (a' := ?_) #[true, true, true, true, true, true, true, true, true, true, true, true, true, true, true, true, true, true, true, false] rfl rfl (any_of HT_.out (by kernel_rfl)) (fun _ _ _ h => h) (Or.inl ⟨by rfl, ?_⟩) ?_ ?_
          rotate_left
          · intro w'
            go_simp
            with_reducible rfl
          rotate_left
          · simp only [Act.put, List.setIfInBounds_toArray, List.set_cons_zero, List.set_cons_succ, i64_w, i32_w]
            rfl
          refine last_ (i := 19) (N := none) #[true, true, true, true, true, true, true, true, true, true, true, true, true, true, true, true, true, true, true, true] rfl rfl (one_of HT_.out (by kernel_rfl)) (by decide) (fun K hK => ?_)
          refine store_blk_step (by rfl) rfl 42 (.tmp 52) (.tmp 51) rfl (off := 1) (u := .slice A6 ((ps.take x.toNat) ++ [(rd_T185 ps x)]).length c6) #[u0, .slice A6 ((ps.take x.toNat) ++ [(rd_T185 ps x)]).length c6] rfl rfl BO.out [.slice A6 ((ps.take x.toNat) ++ [(rd_T185 ps x)]).length c6] rfl (by kernel_rfl) (Nat.le_of_ble_eq_true rfl) rfl rfl ?_
          intro w7 hblk hgrw
          have HS1 := Aside0.mk (S_off HS1.out BO.out (by decide) hgrw)
          have HS0 := Aside0.mk (S_off HS0.out BO.out (by decide) hgrw)
          have HN0 : Aside0 (N0 ≤ w7.heap.size) := ⟨Nat.le_trans HN0.out hgrw.size⟩
          have BD := Aside0.mk (blk_grown BD.out hgrw (fun e => NDO.out (Option.some.inj e)))
          have BR := Aside0.mk (blk_grown BR.out hgrw (fun e => NRO.out (Option.some.inj e)))
          have HB := Aside0.mk (HB.out.grown hgrw HB.out.size (by intro q hq; cases hq; exact GOw.out))
          have BO := Aside0.mk hblk
          clear hblk hgrw hHeld
          refine hK.out _ _ ?_
          clear hK K
          refine done_ (done_of HT_.out (by kernel_rfl)) ?_
          try clear hHeld
          clear hd0 hd1 hx0 hx1
          go_wp2_with fail
          go_roundg gk
          case measure => omega
          case rel =>
            have hw1 : wrap64 (x + 1) = x + 1 := by have := HP0.out; have := HQ0.out; have := HL1.out; unfold wrap64; omega
            exact ⟨x + 1, _, by first | rfl | (rw [hw1]), ⟨by have := HXK.out; omega⟩, HS0, ⟨by rw [take_snoc (z := z185) HP0.out HQ0.out]; exact HS1.out⟩, HN0, BD, BR, BO, HB⟩
        | zero =>
          have hx : x = (ps.length : Int) := by have := HXK.out; omega
          subst hx
          have c4b2 : decide ((ps.length : Int) < (ps.length : Int)) = false := decide_eq_false (by omega)
          have hs := HS1.out
          rw [Int.toNat_natCast, List.take_length] at hs
          obtain ⟨A6, c6, rfl⟩ := Kd.S_slice HS0.out
          obtain ⟨A7, c7, rfl⟩ := Kd.S_slice hs
          have HS1 := Aside0.mk hs
          have hd2 : wr.cell? ⟨go, 0, none⟩ = some (.slice A6 safe.length c6) := (blk_cell BO.out 0).trans rfl
          have hd3 : wr.cell? ⟨go, 1, none⟩ = some (.slice A7 ps.length c7) := (blk_cell BO.out 1).trans rfl
          clear hs
          go_wp2_with (first | ((with_reducible refine gate_ (.store 44 (.tmp 2) (.tmp 53)) rfl ?_); refine store_blk rfl rfl 44 (.tmp 2) (.tmp 53) rfl (off := 0) (u := .agg #[.slice A6 safe.length c6, .slice A7 ps.length c7]) #[.slice A6 safe.length c6, .slice A7 ps.length c7] rfl rfl BR.out [.slice A6 safe.length c6, .slice A7 ps.length c7] rfl (by kernel_rfl) (Nat.le_of_ble_eq_true rfl) rfl rfl ?_; intro w10 hblk hgrw; have HS0 := Aside0.mk (S_off HS0.out BR.out (by decide) hgrw); have HS1 := Aside0.mk (S_off HS1.out BR.out (by decide) hgrw); have HB := Aside0.mk (HB.out.grown hgrw HB.out.size (by intro q hq; cases hq; exact GRw.out)); have BR := Aside0.mk hblk; clear hblk hgrw))
          refine bodyPost_ret (results_cell_row rfl _ _ gr 44 #[.slice A6 safe.length c6, .slice A7 ps.length c7] (0, 0) _ rfl BR.out Try.underlying44 rfl (by kernel_rfl)) rfl ?_
          exact ⟨_, _, _, _, rfl, ⟨fun q h1 h2 => h2.elim (fun h3 => by have := h1.1; omega) h1.2, HS0.out, HS1.out⟩, HB.out⟩
end Go.Proofs.Ytlopmffdebhpfaa.G

/-! ## DoI -/
namespace Go.Proofs.Ytlopmffdebhpfaa.G
open Go.RowKit Go.Proofs.YtlopmffdebhpfaaW.PrintWords Go.Proofs.YtlopmffdebhpfaaW.PrintLast Go.Proofs.YtlopmffdebhpfaaW.PrintMore
set_option linter.unusedVariables false
set_option linter.unusedSimpArgs false

theorem DevOk_below {w w1 : World} {base g b : Nat} {safe : List (List Int)} {ps : List S185} (h : DevOk w base g b safe ps) (hb : Below w.heap.size w w1) : DevOk w1 base g b safe ps := by
  obtain ⟨A0, c0, A1, c1, P, Q, h1, h2, h3, h4⟩ := h
  exact ⟨A0, c0, A1, c1, P, Q, blk_below h1 hb, IsDisk_below h2 hb, LMap_step h3 (hb.block b (LMap_lt h3)), h4⟩
theorem DskOk_below {w w1 : World} {base g : Nat} {safe : List (List Int)} {ps : List S185} (h : DskOk w base g safe ps) (hb : Below w.heap.size w w1) : DskOk w1 base g safe ps := by
  obtain ⟨A0, c0, A1, c1, P, Q, h1, h2, h3⟩ := h
  exact ⟨A0, c0, A1, c1, P, Q, blk_below h1 hb, IsDisk_below h2 hb, h3⟩
end Go.Proofs.Ytlopmffdebhpfaa.G

/-! ## G35 -/
namespace Go.Proofs.Ytlopmffdebhpfaa.G
open Go.RowKit Go.Proofs.YtlopmffdebhpfaaW.PrintWords Go.Proofs.YtlopmffdebhpfaaW.PrintLast Go.Proofs.YtlopmffdebhpfaaW.PrintMore
attribute [local go_sem] max2_int min2_int max_two min_two max_three min_three max_four min_four
set_option linter.unusedVariables false
set_option linter.unusedSimpArgs false

/-! ### laws_szOp: function 35 -/
end Go.Proofs.Ytlopmffdebhpfaa.G

/-! ## G37 -/
namespace Go.Proofs.Ytlopmffdebhpfaa.G
open Go.RowKit Go.Proofs.YtlopmffdebhpfaaW.PrintWords Go.Proofs.YtlopmffdebhpfaaW.PrintLast Go.Proofs.YtlopmffdebhpfaaW.PrintMore
attribute [local go_sem] max2_int min2_int max_two min_two max_three min_three max_four min_four
set_option linter.unusedVariables false
set_option linter.unusedSimpArgs false

/-! ### laws_toOp: function 37 -/
end Go.Proofs.Ytlopmffdebhpfaa.G

/-! ## G39 -/
namespace Go.Proofs.Ytlopmffdebhpfaa.G
open Go.RowKit Go.Proofs.YtlopmffdebhpfaaW.PrintWords Go.Proofs.YtlopmffdebhpfaaW.PrintLast Go.Proofs.YtlopmffdebhpfaaW.PrintMore
attribute [local go_sem] max2_int min2_int max_two min_two max_three min_three max_four min_four
set_option linter.unusedVariables false
set_option linter.unusedSimpArgs false

/-! ### laws_eqOp: function 39 -/
end Go.Proofs.Ytlopmffdebhpfaa.G

/-! ## G40 -/
namespace Go.Proofs.Ytlopmffdebhpfaa.G
open Go.RowKit Go.Proofs.YtlopmffdebhpfaaW.PrintWords Go.Proofs.YtlopmffdebhpfaaW.PrintLast Go.Proofs.YtlopmffdebhpfaaW.PrintMore
attribute [local go_sem] max2_int min2_int max_two min_two max_three min_three max_four min_four
set_option linter.unusedVariables false
set_option linter.unusedSimpArgs false

/-! ### laws_markOp: function 40 -/
end Go.Proofs.Ytlopmffdebhpfaa.G

/-! ## G111 -/
namespace Go.Proofs.Ytlopmffdebhpfaa.G
open Go.RowKit Go.Proofs.YtlopmffdebhpfaaW.PrintWords Go.Proofs.YtlopmffdebhpfaaW.PrintLast Go.Proofs.YtlopmffdebhpfaaW.PrintMore
attribute [local go_sem] max2_int min2_int max_two min_two max_three min_three max_four min_four
set_option linter.unusedVariables false
set_option linter.unusedSimpArgs false

/-! ### laws_heldByteSS: function 111 -/
def laws_heldByteSS.l0 : Nat → List (List Int) → Int → Int → Option (Int)
  | 0, _, _, _ => none
  | k + 1, x0, x1, x5 => if x5 < (x0.length : Int) then (if 0 ≤ x5 then ((laws_heldByteS.f k (rd_L2 x0 x5) x1).bind fun t538 => (if t538 < 0 then (some (-1)) else (laws_heldByteSS.l0 k x0 t538 (wrap64 (x5 + 1))))) else (none)) else (some x1)
def laws_heldByteSS.f (k : Nat) (l0 : List (List Int)) (a1 : Int) : Option (Int) := laws_heldByteSS.l0 k l0 a1 0
set_option maxHeartbeats 8000000 in
set_option maxRecDepth 100000 in
theorem laws_heldByteSS.calls (k : Nat) (A0 : Option Addr) (c0 : Nat) (l0 : List (List Int)) (a1 : Int) (r : Int) (w : World) (hr0 : Kd.C (Kd.slice 5 (Kd.int .u8)) w A0 l0.length l0) (hc0 : l0.length ≤ c0) (h : laws_heldByteSS.f k l0 a1 = some r) :
    Calls Try.prog 111 #[.slice A0 l0.length c0, .int .i64 a1] w fun e w' => e = .returned (.int .i64 r) ∧ Drawn0 w w' := by
  have HR0 := Aside0.mk hr0
  have HC0 := Aside0.mk hc0
  clear hr0 hc0
  have H : (laws_heldByteSS.l0 k l0 a1 0) = some r := h
  clear h
  have H' := Aside0.mk H
  clear H
  go_enter Try.func111, Try.ntmps111
  go_wp2
  go_loopg [1, 5] k (fun kq v1 v5 w' => ∃ (x1_1 : Int) (x5_1 : Int), v1 = .int .i64 x1_1 ∧ v5 = .int .i64 x5_1 ∧ Aside0 (laws_heldByteSS.l0 kq l0 x1_1 x5_1 = some r) ∧ Aside0 (kq ≤ k) ∧ Drawn0 w w')
  case atStart => exact ⟨(a1), (0), (by first | rfl | (simp; done) | (simp [*]; done)), (by first | rfl | (simp; done) | (simp [*]; done)), H', ⟨Nat.le_refl _⟩, by repeat (first | exact Drawn0.refl _ | apply Drawn0.step)⟩
  case round =>
    clear H'
    try clear c1
    try clear p2
    obtain ⟨x1_1, x5_1, rfl, rfl, HA, HK1, ⟨m1, rfl⟩⟩ := hrel
    cases gk with
    | zero => exact absurd HA.out (by simp [laws_heldByteSS.l0])
    | succ k1 =>
      have H := HA.out
      clear HA
      simp only [laws_heldByteSS.l0] at H
      by_cases c3 : x5_1 < (l0.length : Int)
      · rw [if_pos c3] at H
        have c3b0 : decide (x5_1 < (l0.length : Int)) = true := decide_eq_true c3
        clear c3
        by_cases c4 : 0 ≤ x5_1
        · rw [if_pos c4] at H
          have c4b0 : decide (0 ≤ x5_1) = true := decide_eq_true c4
          clear c4
          replace H := Option.bind_eq_some_iff.mp H
          obtain ⟨t538, A50, H⟩ := H
          replace H : (if t538 < 0 then (some (-1)) else (laws_heldByteSS.l0 k1 l0 t538 (wrap64 (x5_1 + 1)))) = some r := H
          have A5 := Aside0.mk A50
          clear A50
          by_cases c6 : t538 < 0
          · rw [if_pos c6] at H
            have c6b0 : decide (t538 < 0) = true := decide_eq_true c6
            clear c6
            obtain rfl := Option.some.inj H
            have p537 : 0 ≤ (x5_1 : Int) := of_decide_eq_true (by first | (with_reducible assumption) | assumption)
            have q537 : x5_1 < (l0.length : Int) := of_decide_eq_true (by first | (with_reducible assumption) | assumption)
            obtain ⟨ad537, A537_0, c537_0, e537, hx537_0, hl537_0, hi537_0⟩ := at_L2 HR0.out x5_1 p537 q537
            cases e537
            have HR537_0 := Aside0.mk hi537_0
            have HC537_0 := Aside0.mk hl537_0
            clear hi537_0 hl537_0
            replace p537 := eq_true p537
            replace q537 := eq_true q537
            go_wp2_with (first | ((with_reducible refine gate_callee (f := 19) rfl ?_); refine goesL_ (some 17) rfl rfl Try.func19 (by kernel_rfl) rfl #[.slice A537_0 (rd_L2 l0 x5_1).length c537_0, .int .i64 x1_1] rfl (by (try simp only [List.map_toArray, List.map_cons, List.map_nil]); first | done | rfl | (simp only [List.length_drop, List.length_take]; rfl)) ?_; (with_reducible refine (laws_heldByteS.calls k1 _ _ (rd_L2 l0 x5_1) x1_1 t538 _ ?side1 ?side2 A5.out).mono ?_); (case side1 => repeat (first | exact HR537_0.out | (with_reducible refine Kd.C_alloc ?_ _) | (with_reducible refine Kd.C_drewN ?_ _) | (with_reducible refine Kd.C_drew ?_))); (case side2 => exact HC537_0.out); rintro e w' ⟨rfl, ⟨nd, rfl⟩⟩; refine ⟨_, rfl, ?_⟩))
            go_ret
            exact ⟨by first | rfl | (simp; done) | (simp [*]; done), by repeat (first | exact Drawn0.refl _ | apply Drawn0.step)⟩
          · rw [if_neg c6] at H
            have c6b0 : decide (t538 < 0) = false := decide_eq_false c6
            clear c6
            have H' := Aside0.mk H
            clear H
            have p537 : 0 ≤ (x5_1 : Int) := of_decide_eq_true (by first | (with_reducible assumption) | assumption)
            have q537 : x5_1 < (l0.length : Int) := of_decide_eq_true (by first | (with_reducible assumption) | assumption)
            obtain ⟨ad537, A537_0, c537_0, e537, hx537_0, hl537_0, hi537_0⟩ := at_L2 HR0.out x5_1 p537 q537
            cases e537
            have HR537_0 := Aside0.mk hi537_0
            have HC537_0 := Aside0.mk hl537_0
            clear hi537_0 hl537_0
            replace p537 := eq_true p537
            replace q537 := eq_true q537
            go_wp2_with (first | ((with_reducible refine gate_callee (f := 19) rfl ?_); refine goesL_ (some 17) rfl rfl Try.func19 (by kernel_rfl) rfl #[.slice A537_0 (rd_L2 l0 x5_1).length c537_0, .int .i64 x1_1] rfl (by (try simp only [List.map_toArray, List.map_cons, List.map_nil]); first | done | rfl | (simp only [List.length_drop, List.length_take]; rfl)) ?_; (with_reducible refine (laws_heldByteS.calls k1 _ _ (rd_L2 l0 x5_1) x1_1 t538 _ ?side1 ?side2 A5.out).mono ?_); (case side1 => repeat (first | exact HR537_0.out | (with_reducible refine Kd.C_alloc ?_ _) | (with_reducible refine Kd.C_drewN ?_ _) | (with_reducible refine Kd.C_drew ?_))); (case side2 => exact HC537_0.out); rintro e w' ⟨rfl, ⟨nd, rfl⟩⟩; refine ⟨_, rfl, ?_⟩))
            go_roundg k1
            case measure => have := HK1.out; omega
            case rel => exact ⟨(t538), (wrap64 (x5_1 + 1)), (by first | rfl | (simp; done) | (simp [*]; done)), (by first | rfl | (simp; done) | (simp [*]; done)), H', ⟨by have := HK1.out; omega⟩, by repeat (first | exact Drawn0.refl _ | apply Drawn0.step)⟩
        · rw [if_neg c4] at H
          exact absurd H (by simp)
      · rw [if_neg c3] at H
        have c3b0 : decide (x5_1 < (l0.length : Int)) = false := decide_eq_false c3
        clear c3
        obtain rfl := Option.some.inj H
        go_wp2
        go_ret
        exact ⟨by first | rfl | (simp; done) | (simp [*]; done), by repeat (first | exact Drawn0.refl _ | apply Drawn0.step)⟩

end Go.Proofs.Ytlopmffdebhpfaa.G

/-! ## G112 -/
namespace Go.Proofs.Ytlopmffdebhpfaa.G
open Go.RowKit Go.Proofs.YtlopmffdebhpfaaW.PrintWords Go.Proofs.YtlopmffdebhpfaaW.PrintLast Go.Proofs.YtlopmffdebhpfaaW.PrintMore
attribute [local go_sem] max2_int min2_int max_two min_two max_three min_three max_four min_four
set_option linter.unusedVariables false
set_option linter.unusedSimpArgs false

/-! ### laws_heldPendS: function 112 -/
def laws_heldPendS.l0 : Nat → List (S185) → Int → Int → Option (Int)
  | 0, _, _, _ => none
  | k + 1, x0, x1, x5 => if x5 < (x0.length : Int) then (if 0 ≤ x5 then (if ((rd_T185 x0 x5).f0) = x1 then ((laws_heldByteS.f k ((rd_T185 x0 x5).f1) (wrap64 (x1 + 1))).bind fun t541 => (if t541 < 0 then (some (-1)) else (laws_heldPendS.l0 k x0 t541 (wrap64 (x5 + 1))))) else (some (-1))) else (none)) else (some x1)
def laws_heldPendS.f (k : Nat) (l0 : List (S185)) (a1 : Int) : Option (Int) := laws_heldPendS.l0 k l0 a1 0
set_option maxHeartbeats 8000000 in
set_option maxRecDepth 100000 in
theorem laws_heldPendS.calls (k : Nat) (A0 : Option Addr) (c0 : Nat) (l0 : List (S185)) (a1 : Int) (r : Int) (w : World) (hr0 : Kd.C k185 w A0 l0.length l0) (hc0 : l0.length ≤ c0) (h : laws_heldPendS.f k l0 a1 = some r) :
    Calls Try.prog 112 #[.slice A0 l0.length c0, .int .i64 a1] w fun e w' => e = .returned (.int .i64 r) ∧ Drawn0 w w' := by
  have HR0 := Aside0.mk hr0
  have HC0 := Aside0.mk hc0
  clear hr0 hc0
  have H : (laws_heldPendS.l0 k l0 a1 0) = some r := h
  clear h
  have H' := Aside0.mk H
  clear H
  go_enter Try.func112, Try.ntmps112
  go_wp2
  go_loopg [1, 5] k (fun kq v1 v5 w' => ∃ (x1_1 : Int) (x5_1 : Int), v1 = .int .i64 x1_1 ∧ v5 = .int .i64 x5_1 ∧ Aside0 (laws_heldPendS.l0 kq l0 x1_1 x5_1 = some r) ∧ Aside0 (kq ≤ k) ∧ Drawn0 w w')
  case atStart => exact ⟨(a1), (0), (by first | rfl | (simp; done) | (simp [*]; done)), (by first | rfl | (simp; done) | (simp [*]; done)), H', ⟨Nat.le_refl _⟩, by repeat (first | exact Drawn0.refl _ | apply Drawn0.step)⟩
  case round =>
    clear H'
    try clear c1
    try clear p2
    obtain ⟨x1_1, x5_1, rfl, rfl, HA, HK1, ⟨m1, rfl⟩⟩ := hrel
    cases gk with
    | zero => exact absurd HA.out (by simp [laws_heldPendS.l0])
    | succ k1 =>
      have H := HA.out
      clear HA
      simp only [laws_heldPendS.l0] at H
      by_cases c3 : x5_1 < (l0.length : Int)
      · rw [if_pos c3] at H
        have c3b0 : decide (x5_1 < (l0.length : Int)) = true := decide_eq_true c3
        clear c3
        by_cases c4 : 0 ≤ x5_1
        · rw [if_pos c4] at H
          have c4b0 : decide (0 ≤ x5_1) = true := decide_eq_true c4
          clear c4
          by_cases c5 : ((rd_T185 l0 x5_1).f0) = x1_1
          · rw [if_pos c5] at H
            have c5b0 : (((rd_T185 l0 x5_1).f0) == x1_1) = true := beq_iff_eq.mpr c5
            have c5b1 : (((rd_T185 l0 x5_1).f0) != x1_1) = false := bne_eq_false_iff_eq.mpr c5
            clear c5
            replace H := Option.bind_eq_some_iff.mp H
            obtain ⟨t541, A60, H⟩ := H
            replace H : (if t541 < 0 then (some (-1)) else (laws_heldPendS.l0 k1 l0 t541 (wrap64 (x5_1 + 1)))) = some r := H
            have A6 := Aside0.mk A60
            clear A60
            by_cases c7 : t541 < 0
            · rw [if_pos c7] at H
              have c7b0 : decide (t541 < 0) = true := decide_eq_true c7
              clear c7
              obtain rfl := Option.some.inj H
              have p539 : 0 ≤ (x5_1 : Int) := of_decide_eq_true (by first | (with_reducible assumption) | assumption)
              have q539 : x5_1 < (l0.length : Int) := of_decide_eq_true (by first | (with_reducible assumption) | assumption)
              obtain ⟨ad539, A539_1, c539_1, e539, hx539_0, hx539_1, hl539_1, hi539_1⟩ := at_T185 HR0.out x5_1 p539 q539
              cases e539
              have HR539_1 := Aside0.mk hi539_1
              have HC539_1 := Aside0.mk hl539_1
              clear hi539_1 hl539_1
              replace p539 := eq_true p539
              replace q539 := eq_true q539
              have p540 : 0 ≤ (x5_1 : Int) := of_decide_eq_true (by first | (with_reducible assumption) | assumption)
              have q540 : x5_1 < (l0.length : Int) := of_decide_eq_true (by first | (with_reducible assumption) | assumption)
              obtain ⟨ad540, A540_1, c540_1, e540, hx540_0, hx540_1, hl540_1, hi540_1⟩ := at_T185 HR0.out x5_1 p540 q540
              obtain rfl : ad539 = ad540 := (by injection e540)
              have HR540_1 := Aside0.mk hi540_1
              have HC540_1 := Aside0.mk hl540_1
              clear hi540_1 hl540_1
              replace p540 := eq_true p540
              replace q540 := eq_true q540
              have ea_ := Option.some.inj (hx539_1.symm.trans hx540_1)
              injection ea_ with ea_ en_ ec_
              subst ea_
              subst ec_
              clear en_
              go_wp2_with (first | ((with_reducible refine gate_callee (f := 19) rfl ?_); refine goesL_ (some 27) rfl rfl Try.func19 (by kernel_rfl) rfl #[.slice A539_1 ((rd_T185 l0 x5_1).f1).length c539_1, .int .i64 (wrap64 (x1_1 + 1))] rfl (by (try simp only [List.map_toArray, List.map_cons, List.map_nil]); first | done | rfl | (simp only [List.length_drop, List.length_take]; rfl)) ?_; (with_reducible refine (laws_heldByteS.calls k1 _ _ ((rd_T185 l0 x5_1).f1) (wrap64 (x1_1 + 1)) t541 _ ?side1 ?side2 A6.out).mono ?_); (case side1 => repeat (first | exact HR540_1.out | (with_reducible refine Kd.C_alloc ?_ _) | (with_reducible refine Kd.C_drewN ?_ _) | (with_reducible refine Kd.C_drew ?_))); (case side2 => exact HC540_1.out); rintro e w' ⟨rfl, ⟨nd, rfl⟩⟩; refine ⟨_, rfl, ?_⟩))
              go_ret
              exact ⟨by first | rfl | (simp; done) | (simp [*]; done), by repeat (first | exact Drawn0.refl _ | apply Drawn0.step)⟩
            · rw [if_neg c7] at H
              have c7b0 : decide (t541 < 0) = false := decide_eq_false c7
              clear c7
              have H' := Aside0.mk H
              clear H
              have p539 : 0 ≤ (x5_1 : Int) := of_decide_eq_true (by first | (with_reducible assumption) | assumption)
              have q539 : x5_1 < (l0.length : Int) := of_decide_eq_true (by first | (with_reducible assumption) | assumption)
              obtain ⟨ad539, A539_1, c539_1, e539, hx539_0, hx539_1, hl539_1, hi539_1⟩ := at_T185 HR0.out x5_1 p539 q539
              cases e539
              have HR539_1 := Aside0.mk hi539_1
              have HC539_1 := Aside0.mk hl539_1
              clear hi539_1 hl539_1
              replace p539 := eq_true p539
              replace q539 := eq_true q539
              have p540 : 0 ≤ (x5_1 : Int) := of_decide_eq_true (by first | (with_reducible assumption) | assumption)
              have q540 : x5_1 < (l0.length : Int) := of_decide_eq_true (by first | (with_reducible assumption) | assumption)
              obtain ⟨ad540, A540_1, c540_1, e540, hx540_0, hx540_1, hl540_1, hi540_1⟩ := at_T185 HR0.out x5_1 p540 q540
              obtain rfl : ad539 = ad540 := (by injection e540)
              have HR540_1 := Aside0.mk hi540_1
              have HC540_1 := Aside0.mk hl540_1
              clear hi540_1 hl540_1
              replace p540 := eq_true p540
              replace q540 := eq_true q540
              have ea_ := Option.some.inj (hx539_1.symm.trans hx540_1)
              injection ea_ with ea_ en_ ec_
              subst ea_
              subst ec_
              clear en_
              go_wp2_with (first | ((with_reducible refine gate_callee (f := 19) rfl ?_); refine goesL_ (some 27) rfl rfl Try.func19 (by kernel_rfl) rfl #[.slice A539_1 ((rd_T185 l0 x5_1).f1).length c539_1, .int .i64 (wrap64 (x1_1 + 1))] rfl (by (try simp only [List.map_toArray, List.map_cons, List.map_nil]); first | done | rfl | (simp only [List.length_drop, List.length_take]; rfl)) ?_; (with_reducible refine (laws_heldByteS.calls k1 _ _ ((rd_T185 l0 x5_1).f1) (wrap64 (x1_1 + 1)) t541 _ ?side1 ?side2 A6.out).mono ?_); (case side1 => repeat (first | exact HR540_1.out | (with_reducible refine Kd.C_alloc ?_ _) | (with_reducible refine Kd.C_drewN ?_ _) | (with_reducible refine Kd.C_drew ?_))); (case side2 => exact HC540_1.out); rintro e w' ⟨rfl, ⟨nd, rfl⟩⟩; refine ⟨_, rfl, ?_⟩))
              go_roundg k1
              case measure => have := HK1.out; omega
              case rel => exact ⟨(t541), (wrap64 (x5_1 + 1)), (by first | rfl | (simp; done) | (simp [*]; done)), (by first | rfl | (simp; done) | (simp [*]; done)), H', ⟨by have := HK1.out; omega⟩, by repeat (first | exact Drawn0.refl _ | apply Drawn0.step)⟩
          · rw [if_neg c5] at H
            have c5b0 : (((rd_T185 l0 x5_1).f0) == x1_1) = false := beq_eq_false_iff_ne.mpr c5
            have c5b1 : (((rd_T185 l0 x5_1).f0) != x1_1) = true := bne_iff_ne.mpr c5
            obtain rfl := Option.some.inj H
            have p539 : 0 ≤ (x5_1 : Int) := of_decide_eq_true (by first | (with_reducible assumption) | assumption)
            have q539 : x5_1 < (l0.length : Int) := of_decide_eq_true (by first | (with_reducible assumption) | assumption)
            obtain ⟨ad539, A539_1, c539_1, e539, hx539_0, hx539_1, hl539_1, hi539_1⟩ := at_T185 HR0.out x5_1 p539 q539
            cases e539
            have HR539_1 := Aside0.mk hi539_1
            have HC539_1 := Aside0.mk hl539_1
            clear hi539_1 hl539_1
            replace p539 := eq_true p539
            replace q539 := eq_true q539
            go_wp2
            go_ret
            exact ⟨by first | rfl | (simp; done) | (simp [*]; done), by repeat (first | exact Drawn0.refl _ | apply Drawn0.step)⟩
        · rw [if_neg c4] at H
          exact absurd H (by simp)
      · rw [if_neg c3] at H
        have c3b0 : decide (x5_1 < (l0.length : Int)) = false := decide_eq_false c3
        clear c3
        obtain rfl := Option.some.inj H
        go_wp2
        go_ret
        exact ⟨by first | rfl | (simp; done) | (simp [*]; done), by repeat (first | exact Drawn0.refl _ | apply Drawn0.step)⟩

end Go.Proofs.Ytlopmffdebhpfaa.G

/-! ## G41 -/
namespace Go.Proofs.Ytlopmffdebhpfaa.G
open Go.RowKit Go.Proofs.YtlopmffdebhpfaaW.PrintWords Go.Proofs.YtlopmffdebhpfaaW.PrintLast Go.Proofs.YtlopmffdebhpfaaW.PrintMore
attribute [local go_sem] max2_int min2_int max_two min_two max_three min_three max_four min_four
set_option linter.unusedVariables false
set_option linter.unusedSimpArgs false

/-! ### laws_heldDisk: function 41 -/
def laws_heldDisk.f (k : Nat) (l0_0 : List (List Int)) (l0_1 : List (S185)) (a1 : Int) : Option (Int) := (laws_heldByteSS.f k l0_0 a1).bind fun t543 => (if t543 < 0 then (some (-1)) else ((laws_heldPendS.f k l0_1 t543).bind fun t544 => (if t544 < 0 then (some (-1)) else (some t544))))
set_option maxHeartbeats 8000000 in
set_option maxRecDepth 100000 in
theorem laws_heldDisk.calls (k : Nat) (A0_0 : Option Addr) (c0_0 : Nat) (l0_0 : List (List Int)) (A0_1 : Option Addr) (c0_1 : Nat) (l0_1 : List (S185)) (a1 : Int) (r : Int) (w : World) (hr0_0 : Kd.C (Kd.slice 5 (Kd.int .u8)) w A0_0 l0_0.length l0_0) (hc0_0 : l0_0.length ≤ c0_0) (hr0_1 : Kd.C k185 w A0_1 l0_1.length l0_1) (hc0_1 : l0_1.length ≤ c0_1) (h : laws_heldDisk.f k l0_0 l0_1 a1 = some r) :
    Calls Try.prog 41 #[.agg #[.slice A0_0 l0_0.length c0_0, .slice A0_1 l0_1.length c0_1], .int .i64 a1] w fun e w' => e = .returned (.int .i64 r) ∧ Below w.heap.size w w' := by
  have hu44 := Try.underlying44
  have HR0_0 := Aside0.mk hr0_0
  have HC0_0 := Aside0.mk hc0_0
  clear hr0_0 hc0_0
  have HR0_1 := Aside0.mk hr0_1
  have HC0_1 := Aside0.mk hc0_1
  clear hr0_1 hc0_1
  have HB := Aside0.mk (Below.refl w.heap.size w)
  have H : ((laws_heldByteSS.f k l0_0 a1).bind fun t543 => (if t543 < 0 then (some (-1)) else ((laws_heldPendS.f k l0_1 t543).bind fun t544 => (if t544 < 0 then (some (-1)) else (some t544))))) = some r := h
  clear h
  replace H := Option.bind_eq_some_iff.mp H
  obtain ⟨t543, A30, H⟩ := H
  replace H : (if t543 < 0 then (some (-1)) else ((laws_heldPendS.f k l0_1 t543).bind fun t544 => (if t544 < 0 then (some (-1)) else (some t544)))) = some r := H
  have A3 := Aside0.mk A30
  clear A30
  by_cases c4 : t543 < 0
  · rw [if_pos c4] at H
    have c4b0 : decide (t543 < 0) = true := decide_eq_true c4
    clear c4
    obtain rfl := Option.some.inj H
    go_enter Try.func41, Try.ntmps41
    go_wp2_with (first | ((with_reducible refine gate_dst (N := 2) rfl ?_); refine box_event ?hg (N := 2) ?hd (cs := #[.slice A0_0 l0_0.length c0_0, .slice A0_1 l0_1.length c0_1]) (t := 44) ?hr ?_; (case hd => rfl); (case hg => rfl); (case hr => first | (go_simp; done) | (go_simp; rfl)); intro gb542 hg w5 hbox hb; have n0_ := Aside0.mk (below_step (by repeat (first | (with_reducible first | exact HB.out | apply below_alloc | apply pw_below_drewN | apply below_drew1) | exact HB.out)) hb); have n1_ := Aside0.mk (hbox); have n2_ := Aside0.mk ((by rw [hg]; exact (below_size (by repeat (first | (with_reducible first | exact HB.out | apply below_alloc | apply pw_below_drewN | apply below_drew1) | exact HB.out))) : w.heap.size ≤ gb542)); have n3_ := Aside0.mk ((by rw [hg]; exact (below_size (by repeat (first | (with_reducible first | exact HB.out | apply below_alloc | apply pw_below_drewN | apply below_drew1) | exact HB.out))) : w.heap.size ≤ gb542)); clear HB; have HB := n0_; have BK542 := n1_; have GW542 := n2_; have GE542 := n3_; clear n0_ n1_ n2_ n3_; clear hb hbox hg; have hcz6_0 : w5.cell? ⟨gb542, 0, none⟩ = some (.slice A0_0 l0_0.length c0_0) := (blk_cell BK542.out 0).trans rfl; have hcz6_1 : w5.cell? ⟨gb542, 1, none⟩ = some (.slice A0_1 l0_1.length c0_1) := (blk_cell BK542.out 1).trans rfl; have hfz6_0 := blk_frozen BK542.out 0; have hfz6_1 := blk_frozen BK542.out 1) | ((with_reducible refine gate_callee (f := 111) rfl ?_); refine goesL_ (some 8) rfl rfl Try.func111 (by kernel_rfl) rfl #[.slice A0_0 l0_0.length c0_0, .int .i64 a1] rfl (by (try simp only [List.map_toArray, List.map_cons, List.map_nil]); first | done | rfl | (simp only [List.length_drop, List.length_take]; rfl)) ?_; (with_reducible refine (laws_heldByteSS.calls k _ _ l0_0 a1 t543 _ ?side1 ?side2 A3.out).mono ?_); (case side1 => repeat (first | exact (Kd.C_below HR0_0.out HB.out) | (with_reducible refine Kd.C_alloc ?_ _) | (with_reducible refine Kd.C_drewN ?_ _) | (with_reducible refine Kd.C_drew ?_))); (case side2 => exact HC0_0.out); rintro e w' ⟨rfl, ⟨nd, rfl⟩⟩; refine ⟨_, rfl, ?_⟩))
    go_ret
    exact ⟨by first | rfl | (simp [errW_none, errW_some] <;> rfl) | (simp [*, errW_none, errW_some] <;> rfl), by repeat (first | (with_reducible first | exact HB.out | apply below_alloc | apply pw_below_drewN | apply below_drew1 | refine below_set ?_ GE542.out) | exact HB.out)⟩
  · rw [if_neg c4] at H
    have c4b0 : decide (t543 < 0) = false := decide_eq_false c4
    clear c4
    replace H := Option.bind_eq_some_iff.mp H
    obtain ⟨t544, A70, H⟩ := H
    replace H : (if t544 < 0 then (some (-1)) else (some t544)) = some r := H
    have A7 := Aside0.mk A70
    clear A70
    by_cases c8 : t544 < 0
    · rw [if_pos c8] at H
      have c8b0 : decide (t544 < 0) = true := decide_eq_true c8
      clear c8
      obtain rfl := Option.some.inj H
      go_enter Try.func41, Try.ntmps41
      go_wp2_with (first | ((with_reducible refine gate_dst (N := 2) rfl ?_); refine box_event ?hg (N := 2) ?hd (cs := #[.slice A0_0 l0_0.length c0_0, .slice A0_1 l0_1.length c0_1]) (t := 44) ?hr ?_; (case hd => rfl); (case hg => rfl); (case hr => first | (go_simp; done) | (go_simp; rfl)); intro gb542 hg w9 hbox hb; have n0_ := Aside0.mk (below_step (by repeat (first | (with_reducible first | exact HB.out | apply below_alloc | apply pw_below_drewN | apply below_drew1) | exact HB.out)) hb); have n1_ := Aside0.mk (hbox); have n2_ := Aside0.mk ((by rw [hg]; exact (below_size (by repeat (first | (with_reducible first | exact HB.out | apply below_alloc | apply pw_below_drewN | apply below_drew1) | exact HB.out))) : w.heap.size ≤ gb542)); have n3_ := Aside0.mk ((by rw [hg]; exact (below_size (by repeat (first | (with_reducible first | exact HB.out | apply below_alloc | apply pw_below_drewN | apply below_drew1) | exact HB.out))) : w.heap.size ≤ gb542)); clear HB; have HB := n0_; have BK542 := n1_; have GW542 := n2_; have GE542 := n3_; clear n0_ n1_ n2_ n3_; clear hb hbox hg; have hcz10_0 : w9.cell? ⟨gb542, 0, none⟩ = some (.slice A0_0 l0_0.length c0_0) := (blk_cell BK542.out 0).trans rfl; have hcz10_1 : w9.cell? ⟨gb542, 1, none⟩ = some (.slice A0_1 l0_1.length c0_1) := (blk_cell BK542.out 1).trans rfl; have hfz10_0 := blk_frozen BK542.out 0; have hfz10_1 := blk_frozen BK542.out 1) | ((with_reducible refine gate_callee (f := 111) rfl ?_); refine goesL_ (some 8) rfl rfl Try.func111 (by kernel_rfl) rfl #[.slice A0_0 l0_0.length c0_0, .int .i64 a1] rfl (by (try simp only [List.map_toArray, List.map_cons, List.map_nil]); first | done | rfl | (simp only [List.length_drop, List.length_take]; rfl)) ?_; (with_reducible refine (laws_heldByteSS.calls k _ _ l0_0 a1 t543 _ ?side1 ?side2 A3.out).mono ?_); (case side1 => repeat (first | exact (Kd.C_below HR0_0.out HB.out) | (with_reducible refine Kd.C_alloc ?_ _) | (with_reducible refine Kd.C_drewN ?_ _) | (with_reducible refine Kd.C_drew ?_))); (case side2 => exact HC0_0.out); rintro e w' ⟨rfl, ⟨nd, rfl⟩⟩; refine ⟨_, rfl, ?_⟩) | ((with_reducible refine gate_callee (f := 112) rfl ?_); refine goesL_ (some 14) rfl rfl Try.func112 (by kernel_rfl) rfl #[.slice A0_1 l0_1.length c0_1, .int .i64 t543] rfl (by (try simp only [List.map_toArray, List.map_cons, List.map_nil]); first | done | rfl | (simp only [List.length_drop, List.length_take]; rfl)) ?_; (with_reducible refine (laws_heldPendS.calls k _ _ l0_1 t543 t544 _ ?side1 ?side2 A7.out).mono ?_); (case side1 => repeat (first | exact (Kd.C_below HR0_1.out (by repeat (first | (with_reducible first | exact HB.out | apply below_alloc | apply pw_below_drewN | apply below_drew1 | refine below_set ?_ GE542.out) | exact HB.out))) | (with_reducible refine Kd.C_alloc ?_ _) | (with_reducible refine Kd.C_drewN ?_ _) | (with_reducible refine Kd.C_drew ?_))); (case side2 => exact HC0_1.out); rintro e w' ⟨rfl, ⟨nd, rfl⟩⟩; refine ⟨_, rfl, ?_⟩))
      go_ret
      exact ⟨by first | rfl | (simp [errW_none, errW_some] <;> rfl) | (simp [*, errW_none, errW_some] <;> rfl), by repeat (first | (with_reducible first | exact HB.out | apply below_alloc | apply pw_below_drewN | apply below_drew1 | refine below_set ?_ GE542.out) | exact HB.out)⟩
    · rw [if_neg c8] at H
      have c8b0 : decide (t544 < 0) = false := decide_eq_false c8
      clear c8
      obtain rfl := Option.some.inj H
      go_enter Try.func41, Try.ntmps41
      go_wp2_with (first | ((with_reducible refine gate_dst (N := 2) rfl ?_); refine box_event ?hg (N := 2) ?hd (cs := #[.slice A0_0 l0_0.length c0_0, .slice A0_1 l0_1.length c0_1]) (t := 44) ?hr ?_; (case hd => rfl); (case hg => rfl); (case hr => first | (go_simp; done) | (go_simp; rfl)); intro gb542 hg w11 hbox hb; have n0_ := Aside0.mk (below_step (by repeat (first | (with_reducible first | exact HB.out | apply below_alloc | apply pw_below_drewN | apply below_drew1) | exact HB.out)) hb); have n1_ := Aside0.mk (hbox); have n2_ := Aside0.mk ((by rw [hg]; exact (below_size (by repeat (first | (with_reducible first | exact HB.out | apply below_alloc | apply pw_below_drewN | apply below_drew1) | exact HB.out))) : w.heap.size ≤ gb542)); have n3_ := Aside0.mk ((by rw [hg]; exact (below_size (by repeat (first | (with_reducible first | exact HB.out | apply below_alloc | apply pw_below_drewN | apply below_drew1) | exact HB.out))) : w.heap.size ≤ gb542)); clear HB; have HB := n0_; have BK542 := n1_; have GW542 := n2_; have GE542 := n3_; clear n0_ n1_ n2_ n3_; clear hb hbox hg; have hcz12_0 : w11.cell? ⟨gb542, 0, none⟩ = some (.slice A0_0 l0_0.length c0_0) := (blk_cell BK542.out 0).trans rfl; have hcz12_1 : w11.cell? ⟨gb542, 1, none⟩ = some (.slice A0_1 l0_1.length c0_1) := (blk_cell BK542.out 1).trans rfl; have hfz12_0 := blk_frozen BK542.out 0; have hfz12_1 := blk_frozen BK542.out 1) | ((with_reducible refine gate_callee (f := 111) rfl ?_); refine goesL_ (some 8) rfl rfl Try.func111 (by kernel_rfl) rfl #[.slice A0_0 l0_0.length c0_0, .int .i64 a1] rfl (by (try simp only [List.map_toArray, List.map_cons, List.map_nil]); first | done | rfl | (simp only [List.length_drop, List.length_take]; rfl)) ?_; (with_reducible refine (laws_heldByteSS.calls k _ _ l0_0 a1 t543 _ ?side1 ?side2 A3.out).mono ?_); (case side1 => repeat (first | exact (Kd.C_below HR0_0.out HB.out) | (with_reducible refine Kd.C_alloc ?_ _) | (with_reducible refine Kd.C_drewN ?_ _) | (with_reducible refine Kd.C_drew ?_))); (case side2 => exact HC0_0.out); rintro e w' ⟨rfl, ⟨nd, rfl⟩⟩; refine ⟨_, rfl, ?_⟩) | ((with_reducible refine gate_callee (f := 112) rfl ?_); refine goesL_ (some 14) rfl rfl Try.func112 (by kernel_rfl) rfl #[.slice A0_1 l0_1.length c0_1, .int .i64 t543] rfl (by (try simp only [List.map_toArray, List.map_cons, List.map_nil]); first | done | rfl | (simp only [List.length_drop, List.length_take]; rfl)) ?_; (with_reducible refine (laws_heldPendS.calls k _ _ l0_1 t543 t544 _ ?side1 ?side2 A7.out).mono ?_); (case side1 => repeat (first | exact (Kd.C_below HR0_1.out (by repeat (first | (with_reducible first | exact HB.out | apply below_alloc | apply pw_below_drewN | apply below_drew1 | refine below_set ?_ GE542.out) | exact HB.out))) | (with_reducible refine Kd.C_alloc ?_ _) | (with_reducible refine Kd.C_drewN ?_ _) | (with_reducible refine Kd.C_drew ?_))); (case side2 => exact HC0_1.out); rintro e w' ⟨rfl, ⟨nd, rfl⟩⟩; refine ⟨_, rfl, ?_⟩))
      go_ret
      exact ⟨by first | rfl | (simp [errW_none, errW_some] <;> rfl) | (simp [*, errW_none, errW_some] <;> rfl), by repeat (first | (with_reducible first | exact HB.out | apply below_alloc | apply pw_below_drewN | apply below_drew1 | refine below_set ?_ GE542.out) | exact HB.out)⟩

end Go.Proofs.Ytlopmffdebhpfaa.G

/-! ## DoP -/
namespace Go.Proofs.Ytlopmffdebhpfaa.Pure
open Go.RowKit Go.Proofs.Ytlopmffdebhpfaa.G Go.Proofs.YtlopmffdebhpfaaW.PrintWords Go.Proofs.YtlopmffdebhpfaaW.PrintLast Go.Proofs.YtlopmffdebhpfaaW.PrintMore
theorem heldB_at {n : Nat} {m : Int} (h0 : 0 ≤ m) (h1 : m + n ≤ 4611686018427387904) : Cv (fun k => laws_heldByteS.f k (marks n m) m) (m + n) :=
  Cv.from (m := n + 1) (fun k => by
    have h := held_l0 k n [] m h0 (by omega) (by simp; omega)
    unfold laws_heldByteS.f
    exact h)
theorem heldSS_l0 : ∀ (ls pre : List (List Int)) (m : Int), 0 ≤ m → m + totL ls ≤ 4611686018427387904 → pre.length + ls.length ≤ 4611686018427387904 → Cv (fun k => laws_heldByteSS.l0 k (pre ++ mkSS ls m) m (pre.length : Int)) (m + totL ls)
  | [], pre, m, h0, h1, hm => Cv.step (fun k => laws_heldByteSS.l0.eq_2 _ _ _ k) (Cv.neg (by simp [mkSS]) (Cv.of (by simp [totL])))
  | x :: r, pre, m, h0, h1, hm => by
    have h2 := mid_len pre (mkSS r (m + x.length)) (marks x.length m)
    have h3 : (x :: r).length = r.length + 1 := rfl
    have h4 : totL (x :: r) = x.length + totL r := rfl
    rw [mkSS_length] at h2
    show Cv (fun k => laws_heldByteSS.l0 k (pre ++ marks x.length m :: mkSS r (m + x.length)) m (pre.length : Int)) _
    refine Cv.step (fun k => laws_heldByteSS.l0.eq_2 _ _ _ k) (Cv.pos (by omega) (Cv.pos (by omega) ?_))
    rw [show rd_L2 (pre ++ marks x.length m :: mkSS r (m + x.length)) (pre.length : Int) = marks x.length m from getD_mid _ _ _ _]
    refine Cv.bind (heldB_at h0 (by omega)) (Cv.neg (by omega) ?_)
    rw [w64 (by omega) (by omega), mid_snoc, ← snoc_len pre (marks x.length m)]
    have ih := heldSS_l0 r (pre ++ [marks x.length m]) (m + x.length) (by omega) (by omega) (by simp; omega)
    rw [show m + (totL (x :: r) : Int) = m + x.length + totL r by omega]
    exact ih
theorem heldPS_l0 : ∀ (ls pre : List S185) (m : Int), 0 ≤ m → m + totP ls ≤ 4611686018427387904 → pre.length + ls.length ≤ 4611686018427387904 → Cv (fun k => laws_heldPendS.l0 k (pre ++ mkPS ls m) m (pre.length : Int)) (m + totP ls)
  | [], pre, m, h0, h1, hm => Cv.step (fun k => laws_heldPendS.l0.eq_2 _ _ _ k) (Cv.neg (by simp [mkPS]) (Cv.of (by simp [totP])))
  | x :: r, pre, m, h0, h1, hm => by
    have h2 := mid_len pre (mkPS r (m + ((1 + x.f1.length : Nat) : Int))) (⟨m, marks x.f1.length (m + 1)⟩ : S185)
    have h3 : (x :: r).length = r.length + 1 := rfl
    have h4 : totP (x :: r) = (1 + x.f1.length) + totP r := rfl
    rw [mkPS_length] at h2
    show Cv (fun k => laws_heldPendS.l0 k (pre ++ (⟨m, marks x.f1.length (m + 1)⟩ : S185) :: mkPS r (m + ((1 + x.f1.length : Nat) : Int))) m (pre.length : Int)) _
    refine Cv.step (fun k => laws_heldPendS.l0.eq_2 _ _ _ k) (Cv.pos (by omega) (Cv.pos (by omega) ?_))
    rw [show rd_T185 (pre ++ (⟨m, marks x.f1.length (m + 1)⟩ : S185) :: mkPS r (m + ((1 + x.f1.length : Nat) : Int))) (pre.length : Int) = ⟨m, marks x.f1.length (m + 1)⟩ from getD_mid _ _ _ _]
    refine Cv.pos rfl ?_
    rw [w64 (n := m + 1) (by omega) (by omega)]
    refine Cv.bind (heldB_at (by omega) (by omega)) (Cv.neg (by omega) ?_)
    rw [w64 (by omega) (by omega), mid_snoc, ← snoc_len pre (⟨m, marks x.f1.length (m + 1)⟩ : S185)]
    have ih := heldPS_l0 r (pre ++ [⟨m, marks x.f1.length (m + 1)⟩]) (m + ((1 + x.f1.length : Nat) : Int)) (by omega) (by omega) (by simp; omega)
    rw [show m + (totP (x :: r) : Int) = m + ((1 + x.f1.length : Nat) : Int) + totP r by omega, show m + 1 + (x.f1.length : Int) = m + ((1 + x.f1.length : Nat) : Int) by omega]
    exact ih
theorem heldD {ls : List (List Int)} {ps : List S185} (h : 1 + (totL ls : Int) + totP ps ≤ 4611686018427387904) (hl : ls.length ≤ 4611686018427387904) (hp : ps.length ≤ 4611686018427387904) : Cv (fun k => laws_heldDisk.f k (mkSS ls 1) (mkPS ps (1 + totL ls)) 1) (1 + (totL ls : Int) + totP ps) := by
  unfold laws_heldDisk.f
  refine Cv.bind (v := 1 + (totL ls : Int)) ?_ (Cv.neg (by omega) (Cv.bind (v := 1 + (totL ls : Int) + totP ps) ?_ (Cv.neg (by omega) (Cv.of rfl))))
  · unfold laws_heldByteSS.f
    exact heldSS_l0 ls [] 1 (by omega) (by omega) (by simpa using hl)
  · unfold laws_heldPendS.f
    exact heldPS_l0 ps [] (1 + totL ls) (by omega) (by omega) (by simpa using hp)
theorem totL_bd {B : Nat} : ∀ {ls : List (List Int)}, (∀ l ∈ ls, l.length ≤ B) → totL ls ≤ ls.length * B
  | [], _ => by simp [totL]
  | x :: r, h => by
    have h1 := totL_bd (ls := r) (fun l hl => h l (List.mem_cons_of_mem _ hl))
    have h2 := h x List.mem_cons_self
    simp only [totL, List.length_cons, Nat.add_mul, Nat.one_mul]
    omega
theorem totP_bd {B : Nat} : ∀ {ps : List S185}, (∀ p ∈ ps, p.f1.length ≤ B) → totP ps ≤ ps.length * (1 + B)
  | [], _ => by simp [totP]
  | x :: r, h => by
    have h1 := totP_bd (ps := r) (fun l hl => h l (List.mem_cons_of_mem _ hl))
    have h2 := h x List.mem_cons_self
    simp only [totP, List.length_cons, Nat.add_mul (r.length) 1, Nat.one_mul]
    omega
end Go.Proofs.Ytlopmffdebhpfaa.Pure

/-! ## Play -/
namespace Go.Proofs.Ytlopmffdebhpfaa.G
open Go.RowKit Go.Proofs.YtlopmffdebhpfaaW.PrintWords Go.Proofs.YtlopmffdebhpfaaW.PrintLast Go.Proofs.YtlopmffdebhpfaaW.PrintMore
set_option linter.unusedVariables false
set_option linter.unusedSimpArgs false
attribute [local go_sem] max2_int min2_int max_two min_two max_three min_three max_four min_four
/-- Ops one after the other, until one fails: the disk, and how many went well. -/
def playL : List S63 → List (List Int) × List S185 → (List (List Int) × List S185) × Nat
  | [], d => (d, 0)
  | o :: r, d => if (doV d.1 d.2 o.f0 o.f1 o.f2).2 = true then ((playL r (doV d.1 d.2 o.f0 o.f1 o.f2).1).1, (playL r (doV d.1 d.2 o.f0 o.f1 o.f2).1).2 + 1) else ((doV d.1 d.2 o.f0 o.f1 o.f2).1, 0)
def playOf (ok : Bool) (safe : List (List Int)) (ps : List S185) (ops : List S63) (n : Int) : (List (List Int) × List S185) × Int :=
  if ok = true then (if ops.length ≤ 5000 then ((playL (ops.take n.toNat) (safe, ps)).1, ((playL (ops.take n.toNat) (safe, ps)).2 : Int)) else ((safe, ps), 0)) else ((safe, ps), 0)
/-- The writes that wait: not too many, each for a sector. -/
def Plays (m : Nat) (ps : List S185) : Prop := ps.length ≤ 5000 ∧ ∀ p ∈ ps, 0 ≤ p.f0 ∧ p.f0 < (m : Int)
theorem doV_plays {safe : List (List Int)} {ps : List S185} (kd at_ : Int) (dat : List Int) (h : Plays safe.length ps) : (doV safe ps kd at_ dat).1.1.length = safe.length ∧ Plays safe.length (doV safe ps kd at_ dat).1.2 := by
  unfold doV
  repeat' split
  all_goals first | exact ⟨rfl, h⟩ | exact ⟨syncL_length _ _, Nat.zero_le _, fun p hp => by cases hp⟩ | skip
  all_goals refine ⟨rfl, by simp; omega, fun p hp => ?_⟩
  all_goals
    rcases List.mem_append.1 hp with hp | hp
    · exact h.2 p hp
    · rw [List.mem_singleton.1 hp]
      exact ⟨by show (0 : Int) ≤ at_; omega, by show at_ < _; omega⟩
def Bd (sf : List (List Int)) (pf : List S185) : Prop := (∀ l ∈ sf, l.length ≤ 1048576) ∧ ∀ p ∈ pf, p.f1.length ≤ 1048576
theorem syncL_bd : ∀ (ps : List S185) (safe : List (List Int)), Bd safe ps → ∀ l ∈ syncL safe ps, l.length ≤ 1048576
  | [], safe, h => h.1
  | p :: ps, safe, h => syncL_bd ps (safe.set p.f0.toNat p.f1) ⟨fun l hl => by
      rcases List.mem_or_eq_of_mem_set hl with h1 | rfl
      · exact h.1 l h1
      · exact h.2 p List.mem_cons_self, fun q hq => h.2 q (List.mem_cons_of_mem _ hq)⟩
theorem doV_Bd {safe : List (List Int)} {ps : List S185} (kd at_ : Int) (dat : List Int) (h : Bd safe ps) : Bd (doV safe ps kd at_ dat).1.1 (doV safe ps kd at_ dat).1.2 := by
  unfold doV
  repeat' split
  all_goals first | exact h | exact ⟨syncL_bd ps safe h, fun p hp => by cases hp⟩ | skip
  all_goals refine ⟨h.1, fun p hp => ?_⟩
  all_goals
    rcases List.mem_append.1 hp with hp | hp
    · exact h.2 p hp
    · rw [List.mem_singleton.1 hp]
      show dat.length ≤ 1048576
      omega
theorem drop_play {ops : List S63} {m x : Nat} (h : x < (ops.take m).length) : (ops.take m).drop x = rd_T63 ops (x : Int) :: (ops.take m).drop (x + 1) := by
  rw [List.drop_eq_getElem_cons h]
  congr 1
  have h2 : x < ops.length := by rw [List.length_take] at h; omega
  rw [List.getElem_take]
  show _ = ops.getD ((x : Int)).toNat z63
  rw [Int.toNat_natCast, List.getD_eq_getElem?_getD, List.getElem?_eq_getElem h2]
  rfl
set_option maxHeartbeats 8000000 in
set_option maxRecDepth 100000 in
theorem spec_Play.calls (k : Nat) (A0 : Option Addr) (c0 : Nat) (safe : List (List Int)) (A1 : Option Addr) (c1 : Nat) (ps : List S185) (Ao : Option Addr) (co : Nat) (ops : List S63) (n : Int) (ok : Bool) (w : World) (hr0 : Kd.C (Kd.slice 5 (Kd.int .u8)) w A0 safe.length safe) (hc0 : safe.length ≤ c0) (hr1 : Kd.C k185 w A1 ps.length ps) (hc1 : ps.length ≤ c1) (hro : Kd.C k63 w Ao ops.length ops) (hco : ops.length ≤ co)
    (hl0 : safe.length ≤ 1048576) (hl1 : ps.length ≤ 1048576) (hb0 : ∀ l ∈ safe, l.length ≤ 1048576) (hb1 : ∀ p ∈ ps, p.f1.length ≤ 1048576) (hrg : ok = true → Plays safe.length ps)
    (hok : spec_DiskOk.f k safe ps = some ok) :
    Calls Try.prog 43 #[.agg #[.slice A0 safe.length c0, .slice A1 ps.length c1], .slice Ao ops.length co, .int .i64 n] w fun e w' => ∃ v0 v1 : Value, ∃ P Q, e = .returned (.tuple #[.agg #[v0, v1], .int .i64 (playOf ok safe ps ops n).2]) ∧ IsDisk w' w.heap.size P Q v0 v1 (playOf ok safe ps ops n).1.1 (playOf ok safe ps ops n).1.2 ∧ Below w.heap.size w w' := by
  have hu44 := Try.underlying44
  have hu63 := Try.underlying63
  have HR0 := Aside0.mk hr0
  have HR1 := Aside0.mk hr1
  have HC0 := Aside0.mk hc0
  have HC1 := Aside0.mk hc1
  have HRO := Aside0.mk hro
  have HCO := Aside0.mk hco
  have HL0 := Aside0.mk hl0
  have HL1 := Aside0.mk hl1
  have HB0 := Aside0.mk hb0
  have HB1 := Aside0.mk hb1
  have N1 := Aside0.mk hok
  have HRG := Aside0.mk hrg
  clear hr0 hr1 hc0 hc1 hro hco hl0 hl1 hb0 hb1 hok hrg
  obtain ⟨⟨⟨SF, PF⟩, RF⟩, hdo⟩ : ∃ r, playOf ok safe ps ops n = r := ⟨_, rfl⟩
  rw [hdo]
  dsimp only
  have HDO := Aside0.mk hdo
  clear hdo
  go_enter Try.func43, Try.ntmps43
  go_wp2_with (first | ((with_reducible refine gate_dst (N := 3) rfl ?_); refine box_event ?hg (N := 3) ?hd (cs := #[.slice A0 safe.length c0, .slice A1 ps.length c1]) (t := 44) ?hr ?_; (case hd => rfl); (case hg => rfl); (case hr => first | (go_simp; done) | (go_simp; rfl)); intro g2 hgr w1 hbox hbel; have B2 := Aside0.mk hbox; have HB := Aside0.mk hbel; clear hbox hbel hgr) | ((with_reducible refine gate_dst (N := 6) rfl ?_); refine box_event ?hg (N := 6) ?hd (cs := #[.slice none 0 0, .slice none 0 0]) (t := 44) ?hr ?_; (case hd => rfl); (case hg => rfl); (case hr => first | (go_simp; done) | (go_simp; rfl)); intro g4 hgr w3 hbox hbel; have B4 := Aside0.mk hbox; have G4w : Aside0 (w.heap.size ≤ g4) := ⟨by rw [hgr]; exact HB.out.size⟩; have B2 := Aside0.mk (blk_below B2.out hbel); have HB := Aside0.mk (below_step HB.out hbel); have c20 : w3.cell? ⟨g2, 0, none⟩ = some (.slice A0 safe.length c0) := (blk_cell B2.out 0).trans rfl; have c21 : w3.cell? ⟨g2, 1, none⟩ = some (.slice A1 ps.length c1) := (blk_cell B2.out 1).trans rfl; clear hbox hbel hgr))
  have HRb := Aside0.mk (Kd.C_below HRO.out HB.out)
  refine (spec_l1Copy.apart A0 c0 safe A1 c1 ps _ (Kd.C_below HR0.out HB.out) HC0.out (Kd.C_below HR1.out HB.out) HC1.out HL0.out HL1.out HB0.out HB1.out).mono ?_
  rintro e w4 ⟨v0, v1, P, Q, rfl, hd, hb⟩
  obtain ⟨Y0, yc0, rfl⟩ := Kd.S_slice hd.2.1
  obtain ⟨Y1, yc1, rfl⟩ := Kd.S_slice hd.2.2
  have HD := Aside0.mk hd
  have HX := Aside0.mk hb
  have HX4 := HX
  clear hb hd c20 c21
  go_wp2_with (first | ((with_reducible refine gate_dst (N := 8) rfl ?_); refine box_event ?hg (N := 8) ?hd (cs := #[.slice none 0 0, .slice none 0 0]) (t := 44) ?hr ?_; (case hd => rfl); (case hg => rfl); (case hr => first | (go_simp; done) | (go_simp; rfl)); intro g8 hgr w5a hbox hbel; have B6z := Aside0.mk hbox; have HD := Aside0.mk (IsDisk_below HD.out hbel); have HX := Aside0.mk (below_step HX.out hbel); have G6w : Aside0 (w3.heap.size ≤ g8) := ⟨by rw [hgr]; exact HX4.out.size⟩; clear hbox hbel hgr) | ((with_reducible refine gate_ (.store 44 (.tmp 8) (.tmp 11)) rfl ?_); refine store_blk rfl rfl 44 (.tmp 8) (.tmp 11) rfl (off := 0) (u := .agg #[.slice Y0 safe.length yc0, .slice Y1 ps.length yc1]) #[.slice Y0 safe.length yc0, .slice Y1 ps.length yc1] rfl rfl B6z.out [.slice Y0 safe.length yc0, .slice Y1 ps.length yc1] rfl (by kernel_rfl) (Nat.le_of_ble_eq_true rfl) rfl rfl ?_; intro w5 hblk hgrw; have HX := Aside0.mk (HX.out.grown hgrw HX.out.size (by intro q hq; cases hq; exact G6w.out)); have HDV := Aside0.mk (show DskOk w5 w3.heap.size g8 safe ps from ⟨Y0, yc0, Y1, yc1, P, Q, hblk, D_off HD.out B6z.out (by decide) hgrw, G6w.out⟩); have c20 : w5.cell? ⟨g2, 0, none⟩ = some (.slice A0 safe.length c0) := (blk_cell (blk_below B2.out HX.out) 0).trans rfl; have c21 : w5.cell? ⟨g2, 1, none⟩ = some (.slice A1 ps.length c1) := (blk_cell (blk_below B2.out HX.out) 1).trans rfl; clear hblk hgrw))
  refine (spec_DiskOk.calls k A0 c0 safe A1 c1 ps ok _ (Kd.C_below HR0.out (below_step HB.out HX.out)) HC0.out (Kd.C_below HR1.out (below_step HB.out HX.out)) HC1.out N1.out).mono ?_
  rintro e w6 ⟨rfl, hb⟩
  have HDV := Aside0.mk (DskOk_below HDV.out hb)
  have HX := Aside0.mk (below_step HX.out hb)
  clear hb c20 c21
  cases ok with
  | false =>
    obtain ⟨⟨rfl, rfl⟩, rfl⟩ : (safe = SF ∧ ps = PF) ∧ 0 = RF := by simpa [playOf] using HDO.out
    obtain ⟨Z0, zc0, Z1, zc1, P2, Q2, hdv, hdk, _⟩ := HDV.out
    have cg2 : w6.cell? ⟨g8, 0, none⟩ = some (.slice Z0 safe.length zc0) := (blk_cell hdv 0).trans rfl
    have cg3 : w6.cell? ⟨g8, 1, none⟩ = some (.slice Z1 ps.length zc1) := (blk_cell hdv 1).trans rfl
    have HDK := Aside0.mk hdk
    have B4 := Aside0.mk (blk_below B4.out HX.out)
    clear hdv hdk
    go_wp2_with (first | ((with_reducible refine gate_ (.store 44 (.tmp 6) (.tmp 20)) rfl ?_); refine store_blk rfl rfl 44 (.tmp 6) (.tmp 20) rfl (off := 0) (u := .agg #[.slice Z0 safe.length zc0, .slice Z1 ps.length zc1]) #[.slice Z0 safe.length zc0, .slice Z1 ps.length zc1] rfl rfl B4.out [.slice Z0 safe.length zc0, .slice Z1 ps.length zc1] rfl (by kernel_rfl) (Nat.le_of_ble_eq_true rfl) rfl rfl ?_; intro w9 hblk hgrw; have HDK := Aside0.mk (D_lower (D_off HDK.out B4.out (by decide) hgrw) HB.out.size); have HBF := Aside0.mk (Below.grown (below_step HB.out HX.out) hgrw (below_step HB.out HX.out).size (by intro q hq; cases hq; exact G4w.out)); have B4 := Aside0.mk hblk; clear hblk hgrw))
    refine bodyPost_ret (results_cell_slot rfl _ _ g4 44 #[.slice Z0 safe.length zc0, .slice Z1 ps.length zc1] (0, 0) _ _ rfl rfl B4.out Try.underlying44 rfl (by kernel_rfl)) rfl ?_
    exact ⟨_, _, P2, Q2, rfl, HDK.out, HBF.out⟩
  | true =>
    by_cases c5 : ops.length ≤ 5000
    · have HC5 := Aside0.mk c5
      have x0 : decide ((5000 : Int) < (ops.length : Int)) = false := decide_eq_false (by omega)
      go_wp2_with fail
      have hnb : (ops.take n.toNat).length = min n.toNat ops.length := List.length_take
      obtain ⟨m, hm⟩ : ∃ m : Int, (if (ops.length : Int) < n then (ops.length : Int) else n) = m := ⟨_, rfl⟩
      have HMN : Aside0 (m ≤ n ∧ m ≤ (ops.length : Int) ∧ m.toNat = (ops.take n.toNat).length) := ⟨by rw [hnb]; split at hm <;> omega⟩
      clear hnb
      go_loopg [9] (ops.take n.toNat).length (fun gk v9 w' => ∃ (x : Nat) (sf : List (List Int)) (pf : List S185), v9 = .int .i64 (x : Int) ∧ Aside0 (gk + x = (ops.take n.toNat).length) ∧ Aside0 (DskOk w' w3.heap.size g8 sf pf) ∧ Aside0 ((playL ((ops.take n.toNat).drop x) (sf, pf)).1 = (SF, PF) ∧ (((playL ((ops.take n.toNat).drop x) (sf, pf)).2 + x : Nat) : Int) = RF) ∧ Aside0 (sf.length ≤ 1048576 ∧ Plays sf.length pf ∧ Bd sf pf) ∧ Aside0 (Below w3.heap.size w3 w'))
      case atStart =>
        refine ⟨0, safe, ps, rfl, ⟨rfl⟩, HDV, ⟨?_⟩, ⟨HL0.out, HRG.out (by first | rfl | trivial), HB0.out, HB1.out⟩, HX⟩
        rw [List.drop_zero]
        have h := HDO.out
        unfold playOf at h
        rw [if_pos rfl, if_pos c5] at h
        injection h with h1 h2
        exact ⟨h1, by rw [← h2]; simp⟩
      case round =>
        clear HDV HX HRG HDO
        obtain ⟨x, sf, pf, rfl, HXK, HDV, HPL, HPS, HX⟩ := hrel
        cases gk with
        | zero =>
          have hx : x = (ops.take n.toNat).length := by have := HXK.out; omega
          have d0 : decide ((x : Int) < m) = false := decide_eq_false (by have := HMN.out; omega)
          have hp := HPL.out
          rw [hx, List.drop_length] at hp
          injection hp.1 with e1 e2
          have e1' : sf = SF := e1
          have e2' : pf = PF := e2
          have e3 : ((x : Nat) : Int) = RF := by rw [← hp.2, hx]; simp [playL]
          subst e1' e2' e3
          have HZX := Aside0.mk hx
          clear hp e1 e2 hx
          have hz : ¬ ((x : Int) < (ops.length : Int) ∧ (x : Int) < n) := by have h := HMN.out.2.2; have h2 := HZX.out; split at hm <;> omega
          by_cases hzl : (x : Int) < (ops.length : Int)
          · have d1 : decide ((x : Int) < (ops.length : Int)) = true := decide_eq_true hzl
            have d5 : decide (x < ops.length) = true := decide_eq_true (by omega)
            have d6 : (x < ops.length) = True := eq_true (by omega)
            have d3 : decide ((x : Int) < n) = false := decide_eq_false (fun h => hz ⟨hzl, h⟩)
            clear hz hzl d0
            obtain ⟨X0, xc0, X1, xc1, P1, Q1, hdv, hdk, _⟩ := HDV.out
            have cg2 : wr.cell? ⟨g8, 0, none⟩ = some (.slice X0 sf.length xc0) := (blk_cell hdv 0).trans rfl
            have cg3 : wr.cell? ⟨g8, 1, none⟩ = some (.slice X1 pf.length xc1) := (blk_cell hdv 1).trans rfl
            have HDK := Aside0.mk hdk
            clear hdv hdk
            go_wp2_with fail
            refine (spec_l1Copy.apart X0 xc0 sf X1 xc1 pf _ (Kd.S_reads' HDK.out.2.1).2.2 (Kd.S_reads' HDK.out.2.1).2.1 (Kd.S_reads' HDK.out.2.2).2.2 (Kd.S_reads' HDK.out.2.2).2.1 HPS.out.1 (Nat.le_trans HPS.out.2.1.1 (by decide)) HPS.out.2.2.1 HPS.out.2.2.2).mono ?_
            rintro e w8 ⟨v0, v1, P2, Q2, rfl, hd, hb⟩
            obtain ⟨Z0, zc0, rfl⟩ := Kd.S_slice hd.2.1
            obtain ⟨Z1, zc1, rfl⟩ := Kd.S_slice hd.2.2
            have HX0_ := HX
            have HX := Aside0.mk (below_step HX.out hb)
            have HDK := Aside0.mk (D_lower hd HX0_.out.size)
            have B4 := Aside0.mk (blk_below B4.out HX.out)
            clear hd hb cg2 cg3 HDV
            go_wp2_with (first | ((with_reducible refine gate_ (.store 44 (.tmp 6) (.tmp 40)) rfl ?_); refine store_blk rfl rfl 44 (.tmp 6) (.tmp 40) rfl (off := 0) (u := .agg #[.slice Z0 sf.length zc0, .slice Z1 pf.length zc1]) #[.slice Z0 sf.length zc0, .slice Z1 pf.length zc1] rfl rfl B4.out [.slice Z0 sf.length zc0, .slice Z1 pf.length zc1] rfl (by kernel_rfl) (Nat.le_of_ble_eq_true rfl) rfl rfl ?_; intro w9 hblk hgrw; have HDK := Aside0.mk (D_lower (D_off HDK.out B4.out (by decide) hgrw) HB.out.size); have HBF := Aside0.mk (Below.grown (below_step HB.out HX.out) hgrw (below_step HB.out HX.out).size (by intro q hq; cases hq; exact G4w.out)); have B4 := Aside0.mk hblk; clear hblk hgrw))
            refine bodyPost_ret (results_cell_slot rfl _ _ g4 44 #[.slice Z0 sf.length zc0, .slice Z1 pf.length zc1] (0, 0) _ _ rfl rfl B4.out Try.underlying44 rfl (by kernel_rfl)) rfl ?_
            exact ⟨_, _, P2, Q2, rfl, HDK.out, HBF.out⟩
          · have d1 : decide ((x : Int) < (ops.length : Int)) = false := decide_eq_false hzl
            have d5 : decide (x < ops.length) = false := decide_eq_false (by omega)
            have d6 : (x < ops.length) = False := eq_false (by omega)
            clear hz hzl d0
            obtain ⟨X0, xc0, X1, xc1, P1, Q1, hdv, hdk, _⟩ := HDV.out
            have cg2 : wr.cell? ⟨g8, 0, none⟩ = some (.slice X0 sf.length xc0) := (blk_cell hdv 0).trans rfl
            have cg3 : wr.cell? ⟨g8, 1, none⟩ = some (.slice X1 pf.length xc1) := (blk_cell hdv 1).trans rfl
            have HDK := Aside0.mk hdk
            clear hdv hdk
            go_wp2_with fail
            refine (spec_l1Copy.apart X0 xc0 sf X1 xc1 pf _ (Kd.S_reads' HDK.out.2.1).2.2 (Kd.S_reads' HDK.out.2.1).2.1 (Kd.S_reads' HDK.out.2.2).2.2 (Kd.S_reads' HDK.out.2.2).2.1 HPS.out.1 (Nat.le_trans HPS.out.2.1.1 (by decide)) HPS.out.2.2.1 HPS.out.2.2.2).mono ?_
            rintro e w8 ⟨v0, v1, P2, Q2, rfl, hd, hb⟩
            obtain ⟨Z0, zc0, rfl⟩ := Kd.S_slice hd.2.1
            obtain ⟨Z1, zc1, rfl⟩ := Kd.S_slice hd.2.2
            have HX0_ := HX
            have HX := Aside0.mk (below_step HX.out hb)
            have HDK := Aside0.mk (D_lower hd HX0_.out.size)
            have B4 := Aside0.mk (blk_below B4.out HX.out)
            clear hd hb cg2 cg3 HDV
            go_wp2_with (first | ((with_reducible refine gate_ (.store 44 (.tmp 6) (.tmp 40)) rfl ?_); refine store_blk rfl rfl 44 (.tmp 6) (.tmp 40) rfl (off := 0) (u := .agg #[.slice Z0 sf.length zc0, .slice Z1 pf.length zc1]) #[.slice Z0 sf.length zc0, .slice Z1 pf.length zc1] rfl rfl B4.out [.slice Z0 sf.length zc0, .slice Z1 pf.length zc1] rfl (by kernel_rfl) (Nat.le_of_ble_eq_true rfl) rfl rfl ?_; intro w9 hblk hgrw; have HDK := Aside0.mk (D_lower (D_off HDK.out B4.out (by decide) hgrw) HB.out.size); have HBF := Aside0.mk (Below.grown (below_step HB.out HX.out) hgrw (below_step HB.out HX.out).size (by intro q hq; cases hq; exact G4w.out)); have B4 := Aside0.mk hblk; clear hblk hgrw))
            refine bodyPost_ret (results_cell_slot rfl _ _ g4 44 #[.slice Z0 sf.length zc0, .slice Z1 pf.length zc1] (0, 0) _ _ rfl rfl B4.out Try.underlying44 rfl (by kernel_rfl)) rfl ?_
            exact ⟨_, _, P2, Q2, rfl, HDK.out, HBF.out⟩
        | succ gk =>
          have hx : x < (ops.take n.toNat).length := by have := HXK.out; omega
          have d0 : decide ((x : Int) < m) = true := decide_eq_true (by have := HMN.out; omega)
          have q0 : (x : Int) < (ops.length : Int) := by have := HMN.out; omega
          have qn : (x : Int) < n := by have := HMN.out; omega
          have p0 : 0 ≤ (x : Int) := by omega
          have d1 : decide ((x : Int) < (ops.length : Int)) = true := decide_eq_true q0
          have d2 : decide (0 ≤ (x : Int)) = true := decide_eq_true p0
          have d3 : decide ((x : Int) < n) = true := decide_eq_true qn
          obtain ⟨ad, A5, c5', e5, hx0, hx1, hx2, hl5, hi5⟩ := at_T63 HRb.out (x : Int) p0 q0
          cases e5
          replace hx0 := (HX.out.cell (World.block_lt_of_cell? w3 _ hx0)).trans hx0
          replace hx1 := (HX.out.cell (World.block_lt_of_cell? w3 _ hx1)).trans hx1
          replace hx2 := (HX.out.cell (World.block_lt_of_cell? w3 _ hx2)).trans hx2
          simp only [Int.toNat_natCast] at hx0 hx1 hx2
          have hpl := drop_play hx
          have HL5 := Aside0.mk hl5
          have HI5 := Aside0.mk hi5
          have HPP := Aside0.mk hpl
          have HX0 := Aside0.mk hx
          have HQ0 := Aside0.mk q0
          clear hl5 hi5 hpl hx
          replace p0 := eq_true p0
          replace q0 := eq_true q0
          replace qn := eq_true qn
          go_wp2_with fail
          obtain ⟨⟨⟨s2, p2⟩, r2⟩, hdv2⟩ : ∃ r, doV sf pf (rd_T63 ops (x : Int)).f0 (rd_T63 ops (x : Int)).f1 (rd_T63 ops (x : Int)).f2 = r := ⟨_, rfl⟩
          have hinv := doV_plays (rd_T63 ops (x : Int)).f0 (rd_T63 ops (x : Int)).f1 (rd_T63 ops (x : Int)).f2 HPS.out.2.1
          have hinv2 := doV_Bd (rd_T63 ops (x : Int)).f0 (rd_T63 ops (x : Int)).f1 (rd_T63 ops (x : Int)).f2 HPS.out.2.2
          rw [hdv2] at hinv hinv2
          have HPS2 := Aside0.mk (show s2.length ≤ 1048576 ∧ Plays s2.length p2 ∧ Bd s2 p2 from ⟨by rw [hinv.1]; exact HPS.out.1, by rw [hinv.1]; exact hinv.2, hinv2⟩)
          have hcall := spec_l1Do.calls g8 sf pf (rd_T63 ops (x : Int)).f0 (rd_T63 ops (x : Int)).f1 A5 c5' (rd_T63 ops (x : Int)).f2 w3 _ HDV.out HX.out HI5.out HL5.out (Nat.le_trans HPS.out.2.1.1 (by decide)) HPS.out.1 HPS.out.2.1.2
          rw [hdv2] at hcall
          refine hcall.mono ?_
          clear hcall hinv hinv2
          rintro e w7 ⟨rfl, hdv, hb⟩
          have hp := HPL.out
          rw [HPP.out] at hp
          simp only [playL, hdv2] at hp
          have HDV := Aside0.mk hdv
          have HX := Aside0.mk hb
          clear hdv hb hdv2 hx0 hx1 hx2 HPL
          cases r2 with
          | true =>
            rw [if_pos rfl] at hp
            have HPL := Aside0.mk hp
            clear hp
            go_wp2_with fail
            go_roundg gk
            case measure => omega
            case rel =>
              have hw1 : wrap64 ((x : Int) + 1) = ((x + 1 : Nat) : Int) := by have := HQ0.out; have := HC5.out; unfold wrap64; omega
              exact ⟨x + 1, s2, p2, by first | rfl | (rw [hw1]), ⟨by have := HXK.out; omega⟩, HDV, ⟨by have := HPL.out; exact ⟨this.1, by have h2 := this.2; omega⟩⟩, HPS2, HX⟩
          | false =>
            rw [if_neg (by decide)] at hp
            injection hp.1 with e1 e2
            have e1' : s2 = SF := e1
            have e2' : p2 = PF := e2
            have e3 : ((x : Nat) : Int) = RF := by have := hp.2; dsimp only at this; omega
            subst e1' e2' e3
            clear hp e1 e2
            obtain ⟨X0, xc0, X1, xc1, P1, Q1, hdv, hdk, _⟩ := HDV.out
            have cg2 : w7.cell? ⟨g8, 0, none⟩ = some (.slice X0 s2.length xc0) := (blk_cell hdv 0).trans rfl
            have cg3 : w7.cell? ⟨g8, 1, none⟩ = some (.slice X1 p2.length xc1) := (blk_cell hdv 1).trans rfl
            have HDK := Aside0.mk hdk
            clear hdv hdk
            go_wp2_with fail
            refine (spec_l1Copy.apart X0 xc0 s2 X1 xc1 p2 _ (Kd.S_reads' HDK.out.2.1).2.2 (Kd.S_reads' HDK.out.2.1).2.1 (Kd.S_reads' HDK.out.2.2).2.2 (Kd.S_reads' HDK.out.2.2).2.1 HPS2.out.1 (Nat.le_trans HPS2.out.2.1.1 (by decide)) HPS2.out.2.2.1 HPS2.out.2.2.2).mono ?_
            rintro e w8 ⟨v0, v1, P2, Q2, rfl, hd, hb⟩
            obtain ⟨Z0, zc0, rfl⟩ := Kd.S_slice hd.2.1
            obtain ⟨Z1, zc1, rfl⟩ := Kd.S_slice hd.2.2
            have HX0_ := HX
            have HX := Aside0.mk (below_step HX.out hb)
            have HDK := Aside0.mk (D_lower hd HX0_.out.size)
            have B4 := Aside0.mk (blk_below B4.out HX.out)
            clear hd hb cg2 cg3 HDV
            go_wp2_with (first | ((with_reducible refine gate_ (.store 44 (.tmp 6) (.tmp 40)) rfl ?_); refine store_blk rfl rfl 44 (.tmp 6) (.tmp 40) rfl (off := 0) (u := .agg #[.slice Z0 s2.length zc0, .slice Z1 p2.length zc1]) #[.slice Z0 s2.length zc0, .slice Z1 p2.length zc1] rfl rfl B4.out [.slice Z0 s2.length zc0, .slice Z1 p2.length zc1] rfl (by kernel_rfl) (Nat.le_of_ble_eq_true rfl) rfl rfl ?_; intro w9 hblk hgrw; have HDK := Aside0.mk (D_lower (D_off HDK.out B4.out (by decide) hgrw) HB.out.size); have HBF := Aside0.mk (Below.grown (below_step HB.out HX.out) hgrw (below_step HB.out HX.out).size (by intro q hq; cases hq; exact G4w.out)); have B4 := Aside0.mk hblk; clear hblk hgrw))
            refine bodyPost_ret (results_cell_slot rfl _ _ g4 44 #[.slice Z0 s2.length zc0, .slice Z1 p2.length zc1] (0, 0) _ _ rfl rfl B4.out Try.underlying44 rfl (by kernel_rfl)) rfl ?_
            exact ⟨_, _, P2, Q2, rfl, HDK.out, HBF.out⟩

    · obtain ⟨⟨rfl, rfl⟩, rfl⟩ : (safe = SF ∧ ps = PF) ∧ 0 = RF := by simpa [playOf, c5] using HDO.out
      have x0 : decide ((5000 : Int) < (ops.length : Int)) = true := decide_eq_true (by omega)
      obtain ⟨Z0, zc0, Z1, zc1, P2, Q2, hdv, hdk, _⟩ := HDV.out
      have cg2 : w6.cell? ⟨g8, 0, none⟩ = some (.slice Z0 safe.length zc0) := (blk_cell hdv 0).trans rfl
      have cg3 : w6.cell? ⟨g8, 1, none⟩ = some (.slice Z1 ps.length zc1) := (blk_cell hdv 1).trans rfl
      have HDK := Aside0.mk hdk
      have B4 := Aside0.mk (blk_below B4.out HX.out)
      clear hdv hdk
      go_wp2_with (first | ((with_reducible refine gate_ (.store 44 (.tmp 6) (.tmp 20)) rfl ?_); refine store_blk rfl rfl 44 (.tmp 6) (.tmp 20) rfl (off := 0) (u := .agg #[.slice Z0 safe.length zc0, .slice Z1 ps.length zc1]) #[.slice Z0 safe.length zc0, .slice Z1 ps.length zc1] rfl rfl B4.out [.slice Z0 safe.length zc0, .slice Z1 ps.length zc1] rfl (by kernel_rfl) (Nat.le_of_ble_eq_true rfl) rfl rfl ?_; intro w9 hblk hgrw; have HDK := Aside0.mk (D_lower (D_off HDK.out B4.out (by decide) hgrw) HB.out.size); have HBF := Aside0.mk (Below.grown (below_step HB.out HX.out) hgrw (below_step HB.out HX.out).size (by intro q hq; cases hq; exact G4w.out)); have B4 := Aside0.mk hblk; clear hblk hgrw))
      refine bodyPost_ret (results_cell_slot rfl _ _ g4 44 #[.slice Z0 safe.length zc0, .slice Z1 ps.length zc1] (0, 0) _ _ rfl rfl B4.out Try.underlying44 rfl (by kernel_rfl)) rfl ?_
      exact ⟨_, _, P2, Q2, rfl, HDK.out, HBF.out⟩
end Go.Proofs.Ytlopmffdebhpfaa.G

/-! ## MarkO -/
namespace Go.Proofs.Ytlopmffdebhpfaa.G
open Go.RowKit Go.Proofs.YtlopmffdebhpfaaW.PrintWords Go.Proofs.YtlopmffdebhpfaaW.PrintLast Go.Proofs.YtlopmffdebhpfaaW.PrintMore
set_option linter.unusedVariables false
set_option linter.unusedSimpArgs false
open Go.Proofs.Ytlopmffdebhpfaa.Pure

end Go.Proofs.Ytlopmffdebhpfaa.G

/-! ## G42 -/
namespace Go.Proofs.Ytlopmffdebhpfaa.G
open Go.RowKit Go.Proofs.YtlopmffdebhpfaaW.PrintWords Go.Proofs.YtlopmffdebhpfaaW.PrintLast Go.Proofs.YtlopmffdebhpfaaW.PrintMore
attribute [local go_sem] max2_int min2_int max_two min_two max_three min_three max_four min_four
set_option linter.unusedVariables false
set_option linter.unusedSimpArgs false

/-! ### laws_szOpS: function 42 -/
end Go.Proofs.Ytlopmffdebhpfaa.G

/-! ## G44 -/
namespace Go.Proofs.Ytlopmffdebhpfaa.G
open Go.RowKit Go.Proofs.YtlopmffdebhpfaaW.PrintWords Go.Proofs.YtlopmffdebhpfaaW.PrintLast Go.Proofs.YtlopmffdebhpfaaW.PrintMore
attribute [local go_sem] max2_int min2_int max_two min_two max_three min_three max_four min_four
set_option linter.unusedVariables false
set_option linter.unusedSimpArgs false

/-! ### laws_toOpS: function 44 -/
end Go.Proofs.Ytlopmffdebhpfaa.G

/-! ## G46 -/
namespace Go.Proofs.Ytlopmffdebhpfaa.G
open Go.RowKit Go.Proofs.YtlopmffdebhpfaaW.PrintWords Go.Proofs.YtlopmffdebhpfaaW.PrintLast Go.Proofs.YtlopmffdebhpfaaW.PrintMore
attribute [local go_sem] max2_int min2_int max_two min_two max_three min_three max_four min_four
set_option linter.unusedVariables false
set_option linter.unusedSimpArgs false

/-! ### laws_eqOpS: function 46 -/
end Go.Proofs.Ytlopmffdebhpfaa.G

/-! ## PlayP -/
namespace Go.Proofs.Ytlopmffdebhpfaa.Pure
open Go.RowKit Go.Proofs.Ytlopmffdebhpfaa.G Go.Proofs.YtlopmffdebhpfaaW.PrintWords Go.Proofs.YtlopmffdebhpfaaW.PrintLast Go.Proofs.YtlopmffdebhpfaaW.PrintMore
theorem playL_bd : ∀ (ops : List S63) (d : List (List Int) × List S185), Plays d.1.length d.2 → Bd d.1 d.2 → (playL ops d).1.1.length = d.1.length ∧ Plays d.1.length (playL ops d).1.2 ∧ Bd (playL ops d).1.1 (playL ops d).1.2
  | [], d, h, hb => ⟨rfl, h, hb⟩
  | o :: r, d, h, hb => by
    have h1 := doV_plays o.f0 o.f1 o.f2 h
    have h2 := doV_Bd o.f0 o.f1 o.f2 hb
    unfold playL
    split
    · have ih := playL_bd r (doV d.1 d.2 o.f0 o.f1 o.f2).1 (by rw [h1.1]; exact h1.2) h2
      rw [h1.1] at ih
      exact ih
    · exact ⟨h1.1, h1.2, h2⟩
theorem playOf_bd {ok : Bool} {safe : List (List Int)} {ps : List S185} {ops : List S63} {n : Int} (hp : ps.length ≤ 1048576) (h : ok = true → Plays safe.length ps) (hb : Bd safe ps) :
    (playOf ok safe ps ops n).1.1.length = safe.length ∧ (playOf ok safe ps ops n).1.2.length ≤ 1048576 ∧ Bd (playOf ok safe ps ops n).1.1 (playOf ok safe ps ops n).1.2 := by
  unfold playOf
  split
  · split
    · have h1 := playL_bd (ops.take n.toNat) (safe, ps) (h (by assumption)) hb
      exact ⟨h1.1, Nat.le_trans h1.2.1.1 (by decide), h1.2.2⟩
    · exact ⟨rfl, hp, hb⟩
  · exact ⟨rfl, hp, hb⟩
end Go.Proofs.Ytlopmffdebhpfaa.Pure

/-! ## PlayF -/
namespace Go.Proofs.Ytlopmffdebhpfaa.G
open Go.RowKit Go.Proofs.YtlopmffdebhpfaaW.PrintWords Go.Proofs.YtlopmffdebhpfaaW.PrintLast Go.Proofs.YtlopmffdebhpfaaW.PrintMore Go.Proofs.Ytlopmffdebhpfaa.Pure
instance (sf : List (List Int)) (pf : List S185) : Decidable (Bd sf pf) := by unfold Bd; exact inferInstance
def spec_PlayF.f (l0 : List (List Int)) (l1 : List S185) (ops : List S63) (n : Int) : Option (List (List Int) × List S185 × Int) :=
  if l0.length ≤ 1048576 ∧ l1.length ≤ 1048576 ∧ Bd l0 l1 then some ((playOf (decide (okDisk l0 l1)) l0 l1 ops n).1.1, (playOf (decide (okDisk l0 l1)) l0 l1 ops n).1.2, (playOf (decide (okDisk l0 l1)) l0 l1 ops n).2) else none
theorem spec_PlayF.calls (A0_0 : Option Addr) (c0_0 : Nat) (l0_0 : List (List Int)) (A0_1 : Option Addr) (c0_1 : Nat) (l0_1 : List S185) (A1 : Option Addr) (c1 : Nat) (l1 : List S63) (a2 : Int) (r1 : List (List Int)) (r2 : List S185) (r3 : Int) (w : World) (hr0_0 : Kd.C (Kd.slice 5 (Kd.int .u8)) w A0_0 l0_0.length l0_0) (hc0_0 : l0_0.length ≤ c0_0) (hr0_1 : Kd.C k185 w A0_1 l0_1.length l0_1) (hc0_1 : l0_1.length ≤ c0_1) (hr1 : Kd.C k63 w A1 l1.length l1) (hc1 : l1.length ≤ c1)
    (h : spec_PlayF.f l0_0 l0_1 l1 a2 = some (r1, r2, r3)) :
    Calls Try.prog 43 #[.agg #[.slice A0_0 l0_0.length c0_0, .slice A0_1 l0_1.length c0_1], .slice A1 l1.length c1, .int .i64 a2] w fun e w' => ∃ v0_ v1_ : Value, e = .returned (.tuple #[.agg #[v0_, v1_], .int .i64 r3]) ∧ Kd.S (Kd.slice 5 (Kd.int .u8)) 22 w' w.heap.size (fun _ => True) v0_ r1 ∧ Kd.S k185 185 w' w.heap.size (fun _ => True) v1_ r2 ∧ Below w.heap.size w w' := by
  unfold spec_PlayF.f at h
  split at h
  · rename_i hb
    simp only [Option.some.injEq, Prod.mk.injEq] at h
    obtain ⟨rfl, rfl, rfl⟩ := h
    obtain ⟨k, hk⟩ := (spec_ok (safe := l0_0) (ps := l0_1)).get
    refine (spec_Play.calls k A0_0 c0_0 l0_0 A0_1 c0_1 l0_1 A1 c1 l1 a2 (decide (okDisk l0_0 l0_1)) w hr0_0 hc0_0 hr0_1 hc0_1 hr1 hc1 hb.1 hb.2.1 hb.2.2.1 hb.2.2.2 (fun h => ?_) hk).mono ?_
    · have h' := of_decide_eq_true h
      exact ⟨h'.2.2.1, fun p hp => ⟨(h'.2.2.2.2 p hp).1, (h'.2.2.2.2 p hp).2.1⟩⟩
    · rintro e w' ⟨v0, v1, P, Q, rfl, hd, hb⟩
      exact ⟨v0, v1, rfl, Kd.S_mono hd.2.1 (fun _ _ => trivial), Kd.S_mono hd.2.2 (fun _ _ => trivial), hb⟩
  · cases h
end Go.Proofs.Ytlopmffdebhpfaa.G

/-! ## SFmt -/
namespace Go.Proofs.Ytlopmffdebhpfaa.G
open Go.RowKit Go.Proofs.YtlopmffdebhpfaaW.PrintWords Go.Proofs.YtlopmffdebhpfaaW.PrintLast Go.Proofs.YtlopmffdebhpfaaW.PrintMore
attribute [local go_sem] max2_int min2_int max_two min_two max_three min_three max_four min_four
set_option linter.unusedVariables false
set_option linter.unusedSimpArgs false

/-! ### spec_Format: function 48 -/
def spec_Format.j0 : Nat → Int → Bool → Option ((List (List Int)) × (List (S185)) × Bool)
  | 0, _, _ => none
  | k + 1, x0, x13 => if x13 = true then (some (([] : List (List Int)), ([] : List (S185)), false)) else ((spec_NewDisk.f k (wrap64 (4 * x0))).bind fun bt680 => ((spec_SuperOps.f k 1 0 2 0).bind fun bt688 => (if bt688.1.length < 3518437208883 then ((spec_PlayF.f bt680.1 bt680.2.1 (bt688.1 ++ [(⟨2, 0, ([] : List Int)⟩ : S63)]) 5).bind fun bt695 => (some (bt695.1, bt695.2.1, true))) else (none))))
def spec_Format.f (k : Nat) (a0 : Int) : Option ((List (List Int)) × (List (S185)) × Bool) := if a0 < 8 then (spec_Format.j0 k a0 true) else (spec_Format.j0 k a0 (decide (a0 > 1024)))
def spec_Format.T5 : Bool × List (List Nat × List Nat) := (true, [([], []), ([], []), ([], []), ([2], [2]), ([1, 3], [1, 3]), ([0, 4, 4], [0, 4]), ([5], [5]), ([6], [6]), ([6], [6]), ([7, 5, 0, 1, 2, 3, 4, 5, 6, 7], [7])])
def spec_Format.B5 : List Nat := [0, 0, 0, 4, 14, 31, 63, 127, 127, 255]
theorem spec_Format.tab5 : rtab .any (opsOf Try.f48 5) = spec_Format.T5 := by kernel_rfl
theorem spec_Format.bits5 : waitsOk spec_Format.T5.2 spec_Format.B5 = true := by kernel_rfl
set_option maxHeartbeats 8000000 in
set_option maxRecDepth 100000 in
theorem spec_Format.calls (k : Nat) (a0 : Int) (r1 : List (List Int)) (r2 : List (S185)) (r3 : Bool) (w : World) (h : spec_Format.f k a0 = some (r1, r2, r3)) :
    Calls Try.prog 48 #[.int .i64 a0] w fun e w' => ∃ v0_ v1_ : Value, e = .returned (.tuple #[.agg #[v0_, v1_], .bool r3]) ∧ Kd.S (Kd.slice 5 (Kd.int .u8)) 22 w' w.heap.size (fun _ => True) v0_ r1 ∧ Kd.S k185 185 w' w.heap.size (fun _ => True) v1_ r2 ∧ Below w.heap.size w w' := by
  have hu44 := Try.underlying44
  have hu81 := Try.underlying81
  have hu63 := Try.underlying63
  have HB := Aside0.mk (Below.refl w.heap.size w)
  have H : (if a0 < 8 then (spec_Format.j0 k a0 true) else (spec_Format.j0 k a0 (decide (a0 > 1024)))) = some (r1, r2, r3) := h
  clear h
  have HC2 := Aside0.mk H
  clear H
  go_enter Try.func48, Try.ntmps48
  go_upto_region 1 with (first | ((with_reducible refine gate_dst (N := 2) rfl ?_); refine box_event ?hg (N := 2) ?hd (cs := #[.slice none 0 0, .slice none 0 0]) (t := 44) ?hr ?_; (case hd => rfl); (case hg => rfl); (case hr => first | (go_simp; done) | (go_simp; rfl)); intro gb679 hg w3 hbox hb; have n0_ := Aside0.mk (below_step (by repeat (first | (with_reducible first | exact HB.out | apply below_alloc | apply pw_below_drewN | apply below_drew1) | exact HB.out)) hb); have n1_ := Aside0.mk (hbox); have n2_ := Aside0.mk ((by rw [hg]; exact (below_size (by repeat (first | (with_reducible first | exact HB.out | apply below_alloc | apply pw_below_drewN | apply below_drew1) | exact HB.out))) : w.heap.size ≤ gb679)); have n3_ := Aside0.mk ((by rw [hg]; exact (below_size (by repeat (first | (with_reducible first | exact HB.out | apply below_alloc | apply pw_below_drewN | apply below_drew1) | exact HB.out))) : w.heap.size ≤ gb679)); clear HB; have HB := n0_; have BK679 := n1_; have GW679 := n2_; have GE679 := n3_; clear n0_ n1_ n2_ n3_; clear hb hbox hg))
  (try simp only [Act.put, List.setIfInBounds_toArray, List.set_cons_zero, List.set_cons_succ])
  go_cut [13] (fun v13 wc => ∃ (kq : Nat) (x13_1 : Bool), v13 = .bool x13_1 ∧ Aside0 (spec_Format.j0 kq a0 x13_1 = some (r1, r2, r3)) ∧ Aside0 (kq ≤ k) ∧ Aside0 (wc.heap[gb679]? = some (.cells #[(.slice none 0 0), (.slice none 0 0)] 44 (0, 0))) ∧ Aside0 (Below w.heap.size w wc))
  case first =>
    have H := HC2.out
    clear HC2
    by_cases c4 : a0 < 8
    · rw [if_pos c4] at H
      have c4b0 : decide (a0 < 8) = true := decide_eq_true c4
      clear c4
      (first | rw [c4b0] | (simp only [i64_w, i32_w]; rw [c4b0]) | skip)
      have H' := Aside0.mk H
      clear H
      go_wp2
      go_meet
      case rel => exact ⟨_, (true), (by first | rfl | (simp; done) | (simp [*]; done)), H', ⟨by first | omega | exact Nat.le_refl _⟩, ⟨by (with_reducible repeat (first | refine blk_drewN ?_ _ | refine blk_drew ?_ | refine blk_alloc ?_ _)); exact BK679.out⟩, ⟨by repeat (first | (with_reducible first | exact HB.out | apply below_alloc | apply pw_below_drewN | apply below_drew1 | refine below_set ?_ GE679.out) | exact HB.out)⟩⟩
    · rw [if_neg c4] at H
      have c4b0 : decide (a0 < 8) = false := decide_eq_false c4
      clear c4
      (first | rw [c4b0] | (simp only [i64_w, i32_w]; rw [c4b0]) | skip)
      have H' := Aside0.mk H
      clear H
      go_wp2
      go_meet
      case rel => exact ⟨_, (decide (a0 > 1024)), (by first | rfl | (simp; done) | (simp [*]; done)), H', ⟨by first | omega | exact Nat.le_refl _⟩, ⟨by (with_reducible repeat (first | refine blk_drewN ?_ _ | refine blk_drew ?_ | refine blk_alloc ?_ _)); exact BK679.out⟩, ⟨by repeat (first | (with_reducible first | exact HB.out | apply below_alloc | apply pw_below_drewN | apply below_drew1 | refine below_set ?_ GE679.out) | exact HB.out)⟩⟩
  case rest =>
    clear HC2
    try clear p2
    try clear c4
    try clear c4b0
    obtain ⟨kq, x13_1, rfl, HA, HJ1, BK679, HB⟩ := hcut
    cases kq with
    | zero => exact absurd HA.out (by simp [spec_Format.j0])
    | succ kj1 =>
      have H := HA.out
      clear HA
      simp only [spec_Format.j0] at H
      by_cases c5 : x13_1 = true
      · subst c5
        have H1 : (some (([] : List (List Int)), ([] : List (S185)), false)) = some (r1, r2, r3) := by rw [if_pos rfl] at H; exact H
        clear H
        have H := H1
        clear H1
        simp only [Option.some.injEq, Prod.mk.injEq] at H
        obtain ⟨rfl, rfl, rfl⟩ := H
        have hcz6_0 : wc.cell? ⟨gb679, 0, none⟩ = some (.slice none 0 0) := (blk_cell BK679.out 0).trans rfl
        have hcz6_1 : wc.cell? ⟨gb679, 1, none⟩ = some (.slice none 0 0) := (blk_cell BK679.out 1).trans rfl
        have hfz6_0 := blk_frozen BK679.out 0
        have hfz6_1 := blk_frozen BK679.out 1
        go_wp2
        refine bodyPost_ret (results_ct rfl _ _ gb679 44 #[.slice none 0 0, .slice none 0 0] (0, 0) _ rfl (by (with_reducible repeat (first | refine blk_drewN ?_ _ | refine blk_drew ?_ | refine blk_alloc ?_ _)); refine blk_put (cs := #[.slice none 0 0, .slice none 0 0]) ?_ 1 _ rfl; (with_reducible repeat (first | refine blk_drewN ?_ _ | refine blk_drew ?_ | refine blk_alloc ?_ _)); refine blk_put (cs := #[.slice none 0 0, .slice none 0 0]) ?_ 0 _ rfl; (with_reducible repeat (first | refine blk_drewN ?_ _ | refine blk_drew ?_ | refine blk_alloc ?_ _)); exact BK679.out) Try.underlying44 rfl (by kernel_rfl)) rfl ?_
        exact ⟨_, _, by first | rfl | (simp [errW_none, errW_some] <;> rfl) | (simp [*, errW_none, errW_some] <;> rfl), by first | exact Kd.S_nil _ _ _ _ _ | exact Kd.N_nil _ _ _ _ _ | exact Kd.V_nil _ _ _ _ _ | exact Kd.Q_nil _ _ _ _ _ | exact Kd.R_nil _ _ _ _ _, by first | exact Kd.S_nil _ _ _ _ _ | exact Kd.N_nil _ _ _ _ _ | exact Kd.V_nil _ _ _ _ _ | exact Kd.Q_nil _ _ _ _ _ | exact Kd.R_nil _ _ _ _ _, by repeat (first | (with_reducible first | exact HB.out | apply below_alloc | apply pw_below_drewN | apply below_drew1 | refine below_set ?_ GE679.out) | exact HB.out)⟩
      · replace c5 := Bool.eq_false_iff.mpr c5
        subst c5
        have H1 : ((spec_NewDisk.f kj1 (wrap64 (4 * a0))).bind fun bt680 => ((spec_SuperOps.f kj1 1 0 2 0).bind fun bt688 => (if bt688.1.length < 3518437208883 then ((spec_PlayF.f bt680.1 bt680.2.1 (bt688.1 ++ [(⟨2, 0, ([] : List Int)⟩ : S63)]) 5).bind fun bt695 => (some (bt695.1, bt695.2.1, true))) else (none)))) = some (r1, r2, r3) := by rw [if_neg (show ¬ (false = true) by decide)] at H; exact H
        clear H
        have H := H1
        clear H1
        replace H := Option.bind_eq_some_iff.mp H
        obtain ⟨⟨t680, t683, t686⟩, A70, H⟩ := H
        replace H : ((spec_SuperOps.f kj1 1 0 2 0).bind fun bt688 => (if bt688.1.length < 3518437208883 then ((spec_PlayF.f t680 t683 (bt688.1 ++ [(⟨2, 0, ([] : List Int)⟩ : S63)]) 5).bind fun bt695 => (some (bt695.1, bt695.2.1, true))) else (none))) = some (r1, r2, r3) := H
        have A7 := Aside0.mk A70
        clear A70
        replace H := Option.bind_eq_some_iff.mp H
        obtain ⟨⟨t688, t691⟩, A80, H⟩ := H
        replace H : (if t688.length < 3518437208883 then ((spec_PlayF.f t680 t683 (t688 ++ [(⟨2, 0, ([] : List Int)⟩ : S63)]) 5).bind fun bt695 => (some (bt695.1, bt695.2.1, true))) else (none)) = some (r1, r2, r3) := H
        have A8 := Aside0.mk A80
        clear A80
        by_cases c9 : t688.length < 3518437208883
        · rw [if_pos c9] at H
          have LMc9 := Aside0.mk c9
          clear c9
          obtain ⟨y692, hy692⟩ : ∃ y_ : List (S63), y_ = (t688 ++ [(⟨2, 0, ([] : List Int)⟩ : S63)]) := ⟨_, rfl⟩
          replace H : ((spec_PlayF.f t680 t683 y692 5).bind fun bt695 => (some (bt695.1, bt695.2.1, true))) = some (r1, r2, r3) := by first | (rw [hy692]; with_reducible exact H) | (have H2_ := (Option.bind_some _ _).symm.trans H; rw [hy692]; with_reducible exact H2_) | (have H2_ := (Option.bind_some _ _).symm.trans H; with_reducible exact H2_) | with_reducible exact H | (rw [hy692]; exact H) | exact H
          have Ny692 := Aside0.mk hy692
          clear hy692
          replace H := Option.bind_eq_some_iff.mp H
          obtain ⟨⟨t695, t698, t701⟩, A100, H⟩ := H
          replace H : (some (t695, t698, true)) = some (r1, r2, r3) := H
          have A10 := Aside0.mk A100
          clear A100
          simp only [Option.some.injEq, Prod.mk.injEq] at H
          obtain ⟨rfl, rfl, rfl⟩ := H
          try go_wp2_with (first | ((with_reducible refine gate_callee (f := 113) rfl ?_); refine goesL_ (some 18) rfl rfl Try.func113 (by kernel_rfl) rfl #[.int .i64 (wrap64 (4 * a0))] rfl (by (try simp only [List.map_toArray, List.map_cons, List.map_nil]); first | done | rfl | (simp only [List.length_drop, List.length_take]; rfl)) ?_; (with_reducible refine (spec_NewDisk.calls kj1 (wrap64 (4 * a0)) t680 t683 t686 _ A7.out).mono ?_); rintro e w11 ⟨v681, v684, rfl, ho0, ho1, hb⟩; refine ⟨_, rfl, ?_⟩; have n0_ := Aside0.mk (Kd.S_lower ho0 (below_size (by repeat (first | (with_reducible first | exact HB.out | apply below_alloc | apply pw_below_drewN | apply below_drew1 | refine below_set ?_ GE679.out) | exact HB.out)))); have n1_ := Aside0.mk (Kd.S_lower ho1 (below_size (by repeat (first | (with_reducible first | exact HB.out | apply below_alloc | apply pw_below_drewN | apply below_drew1 | refine below_set ?_ GE679.out) | exact HB.out)))); have n2_ := Aside0.mk (blk_below (g := gb679) (o := .cells #[.slice none 0 0, .slice none 0 0] 44 (0, 0)) (by (with_reducible repeat (first | refine blk_drewN ?_ _ | refine blk_drew ?_ | refine blk_alloc ?_ _)); exact BK679.out) hb); have n3_ := Aside0.mk (below_step (by repeat (first | (with_reducible first | exact HB.out | apply below_alloc | apply pw_below_drewN | apply below_drew1 | refine below_set ?_ GE679.out) | exact HB.out)) hb); clear BK679; clear HB; have HO682 := n0_; have HO685 := n1_; have BK679 := n2_; have HB := n3_; clear n0_ n1_ n2_ n3_; (try clear hb); (try clear hb2); (try clear hk); (try clear hi); (try clear ho0); (try clear ho1)) | ((with_reducible refine gate_dst (N := 4) rfl ?_); refine box_event ?hg (N := 4) ?hd (cs := #[.slice none 0 0, .slice none 0 0]) (t := 44) ?hr ?_; (case hd => rfl); (case hg => rfl); (case hr => first | (go_simp; done) | (go_simp; rfl)); intro gb687 hg w12 hbox hb; have n0_ := Aside0.mk (Kd.S_below (by (with_reducible repeat (first | apply Kd.S_alloc | apply Kd.S_drewN | apply Kd.S_drew)); exact HO682.out) hb); have n1_ := Aside0.mk (Kd.S_below (by (with_reducible repeat (first | apply Kd.S_alloc | apply Kd.S_drewN | apply Kd.S_drew)); exact HO685.out) hb); have n2_ := Aside0.mk (blk_below (g := gb679) (o := .cells #[.slice none 0 0, .slice none 0 0] 44 (0, 0)) (by (with_reducible repeat (first | refine blk_drewN ?_ _ | refine blk_drew ?_ | refine blk_alloc ?_ _)); exact BK679.out) hb); have n3_ := Aside0.mk (below_step (by repeat (first | (with_reducible first | exact HB.out | apply below_alloc | apply pw_below_drewN | apply below_drew1 | refine below_set ?_ GE679.out) | exact HB.out)) hb); have n4_ := Aside0.mk (hbox); have n5_ := Aside0.mk ((by rw [hg]; exact (below_size (by repeat (first | (with_reducible first | exact HB.out | apply below_alloc | apply pw_below_drewN | apply below_drew1 | refine below_set ?_ GE679.out) | exact HB.out))) : w.heap.size ≤ gb687)); have n6_ := Aside0.mk ((by rw [hg]; exact (below_size (by repeat (first | (with_reducible first | exact HB.out | apply below_alloc | apply pw_below_drewN | apply below_drew1 | refine below_set ?_ GE679.out) | exact HB.out))) : w.heap.size ≤ gb687)); have n7_ := Aside0.mk ((by rw [hg]; exact Nat.ne_of_lt (blk_lt (g := gb679) (o := .cells #[.slice none 0 0, .slice none 0 0] 44 (0, 0)) (by (with_reducible repeat (first | refine blk_drewN ?_ _ | refine blk_drew ?_ | refine blk_alloc ?_ _)); exact BK679.out)) : gb679 ≠ gb687)); have n8_ := Aside0.mk ((by rw [hg]; exact Nat.ne_of_gt (blk_lt (g := gb679) (o := .cells #[.slice none 0 0, .slice none 0 0] 44 (0, 0)) (by (with_reducible repeat (first | refine blk_drewN ?_ _ | refine blk_drew ?_ | refine blk_alloc ?_ _)); exact BK679.out)) : gb687 ≠ gb679)); clear HO682; clear HO685; clear BK679; clear HB; have HO682 := n0_; have HO685 := n1_; have BK679 := n2_; have HB := n3_; have BK687 := n4_; have GW687 := n5_; have GE687 := n6_; have NB679_687 := n7_; have NB687_679 := n8_; clear n0_ n1_ n2_ n3_ n4_ n5_ n6_ n7_ n8_; clear hb hbox hg; obtain ⟨Ao13, co13, eo13⟩ := Kd.S_slice HO682.out; subst eo13; have hnb14 := NB687_679.out; have hnc14 := NB679_687.out; have hcz15_0 : w12.cell? ⟨gb687, 0, none⟩ = some (.slice none 0 0) := (blk_cell BK687.out 0).trans rfl; have hcz15_1 : w12.cell? ⟨gb687, 1, none⟩ = some (.slice none 0 0) := (blk_cell BK687.out 1).trans rfl; have hfz15_0 := blk_frozen BK687.out 0; have hfz15_1 := blk_frozen BK687.out 1; obtain ⟨Ao16, co16, eo16⟩ := Kd.S_slice HO685.out; subst eo16) | ((with_reducible refine gate_callee (f := 114) rfl ?_); refine goesL_ (some 23) rfl rfl Try.func114 (by kernel_rfl) rfl #[.agg #[.int .i64 1, .int .i64 0, .int .i64 2, .int .i64 0]] rfl (by (try simp only [List.map_toArray, List.map_cons, List.map_nil]); first | done | rfl | (simp only [List.length_drop, List.length_take]; rfl)) ?_; (with_reducible refine (spec_SuperOps.calls kj1 1 0 2 0 t688 t691 _ A8.out).mono ?_); rintro e w17 ⟨v689, rfl, ho0, hb⟩; refine ⟨_, rfl, ?_⟩; have n0_ := Aside0.mk (Kd.S_below (by (with_reducible repeat (first | apply Kd.S_alloc | apply Kd.S_drewN | apply Kd.S_drew)); exact (Kd.S_mono (Kd.S_far (p := ⟨gb687, 1, none⟩) (Kd.S_far (p := ⟨gb687, 0, none⟩) (Kd.S_types HO682.out BK687.out (by decide)) (fun _ hk => hk.2) (.slice Ao13 t680.length co13)) (fun _ hk => hk.2) (.slice Ao16 t683.length co16)) (fun _ h_ => h_.1))) hb); have n1_ := Aside0.mk (Kd.S_below (by (with_reducible repeat (first | apply Kd.S_alloc | apply Kd.S_drewN | apply Kd.S_drew)); exact (Kd.S_mono (Kd.S_far (p := ⟨gb687, 1, none⟩) (Kd.S_far (p := ⟨gb687, 0, none⟩) (Kd.S_types HO685.out BK687.out (by decide)) (fun _ hk => hk.2) (.slice Ao13 t680.length co13)) (fun _ hk => hk.2) (.slice Ao16 t683.length co16)) (fun _ h_ => h_.1))) hb); have n2_ := Aside0.mk (Kd.S_lower ho0 (below_size (by repeat (first | (with_reducible first | exact HB.out | apply below_alloc | apply pw_below_drewN | apply below_drew1 | refine below_set ?_ GE679.out | refine below_set ?_ GE687.out) | exact HB.out)))); have n3_ := Aside0.mk (blk_below (g := gb679) (o := .cells #[.slice none 0 0, .slice none 0 0] 44 (0, 0)) (by (with_reducible repeat (first | refine blk_drewN ?_ _ | refine blk_drew ?_ | refine blk_alloc ?_ _)); refine blk_far ?_ NB679_687.out _; (with_reducible repeat (first | refine blk_drewN ?_ _ | refine blk_drew ?_ | refine blk_alloc ?_ _)); refine blk_far ?_ NB679_687.out _; (with_reducible repeat (first | refine blk_drewN ?_ _ | refine blk_drew ?_ | refine blk_alloc ?_ _)); exact BK679.out) hb); have n4_ := Aside0.mk (blk_below (g := gb687) (o := .cells #[.slice Ao13 t680.length co13, .slice Ao16 t683.length co16] 44 (0, 0)) (by (with_reducible repeat (first | refine blk_drewN ?_ _ | refine blk_drew ?_ | refine blk_alloc ?_ _)); refine blk_put (cs := #[.slice Ao13 t680.length co13, .slice none 0 0]) ?_ 1 _ rfl; (with_reducible repeat (first | refine blk_drewN ?_ _ | refine blk_drew ?_ | refine blk_alloc ?_ _)); refine blk_put (cs := #[.slice none 0 0, .slice none 0 0]) ?_ 0 _ rfl; (with_reducible repeat (first | refine blk_drewN ?_ _ | refine blk_drew ?_ | refine blk_alloc ?_ _)); exact BK687.out) hb); have n5_ := Aside0.mk (below_step (by repeat (first | (with_reducible first | exact HB.out | apply below_alloc | apply pw_below_drewN | apply below_drew1 | refine below_set ?_ GE679.out | refine below_set ?_ GE687.out) | exact HB.out)) hb); clear HO682; clear HO685; clear BK679; clear BK687; clear HB; have HO682 := n0_; have HO685 := n1_; have HO690 := n2_; have BK679 := n3_; have BK687 := n4_; have HB := n5_; clear n0_ n1_ n2_ n3_ n4_ n5_; (try clear hb); (try clear hb2); (try clear hk); (try clear hi); (try clear ho0)))
          have n0_ := Aside0.mk (Kd.S_drew HO682.out)
          have n1_ := Aside0.mk (Kd.S_drew HO685.out)
          have n2_ := Aside0.mk (Kd.S_drew HO690.out)
          have n3_ := Aside0.mk (blk_drew BK679.out)
          have n4_ := Aside0.mk (blk_drew BK687.out)
          have n5_ := Aside0.mk (below_drew1 HB.out)
          clear HO682
          clear HO685
          clear HO690
          clear BK679
          clear BK687
          clear HB
          have HO682 := n0_
          have HO685 := n1_
          have HO690 := n2_
          have BK679 := n3_
          have BK687 := n4_
          have HB := n5_
          clear n0_ n1_ n2_ n3_ n4_ n5_
          refine start_ (n := 10) (S := fun w' => w'.cell? ⟨gb687, 0, none⟩ = some (.slice Ao13 t680.length co13) ∧ w'.cell? ⟨gb687, 1, none⟩ = some (.slice Ao16 t683.length co16)) (ds := [9]) #[false, false, false, false, false, false, false, false, false, false] (by kernel_rfl) rfl rfl ⟨(blk_cell BK687.out 0).trans rfl, (blk_cell BK687.out 1).trans rfl⟩ (fun hHeld => ?_); refine with_tabW spec_Format.tab5 spec_Format.bits5 (fun HT_ HW_ => ?_)
          generalize w17.drew = w18 at HO682 HO685 HO690 BK679 BK687 HB hHeld ⊢
          refine pure_ (i := 1) (N := some 28) (v := ?_) (a' := ?_) #[false, true, false, false, false, false, false, false, false, false] rfl rfl (any_of HT_.out (by kernel_rfl)) (fun _ _ _ h => h) (Or.inl ⟨by rfl, ?_⟩) ?_ ?_
          rotate_left
          · intro w'
            go_simp
            with_reducible rfl
          rotate_left
          · simp only [Act.put, List.setIfInBounds_toArray, List.set_cons_zero, List.set_cons_succ, i64_w, i32_w]
            rfl
          refine pure_ (i := 2) (N := some 29) (v := ?_) (a' := ?_) #[false, true, true, false, false, false, false, false, false, false] rfl rfl (any_of HT_.out (by kernel_rfl)) (fun _ _ _ h => h) (Or.inl ⟨by rfl, ?_⟩) ?_ ?_
          rotate_left
          · intro w'
            go_simp
            with_reducible rfl
          rotate_left
          · simp only [Act.put, List.setIfInBounds_toArray, List.set_cons_zero, List.set_cons_succ, i64_w, i32_w]
            rfl
          refine take_ (i := 0) (N := some 27) (v := ?_) (a' := ?_) #[true, true, true, false, false, false, false, false, false, false] rfl rfl (take_ofW HT_.out HW_.out (by kernel_rfl)) (fun _ _ _ h => h) (Or.inl ⟨by rfl, ?_⟩) hHeld ?_ ?_
          rotate_left
          · rintro w' ⟨s0, s1⟩
            go_simp
            with_reducible rfl
          rotate_left
          · simp only [Act.put, List.setIfInBounds_toArray, List.set_cons_zero, List.set_cons_succ, i64_w, i32_w]
            rfl
          refine one_ (i := 3) (N := some 30) #[true, true, true, true, false, false, false, false, false, false] rfl rfl (one_of HT_.out (by kernel_rfl)) (by decide) (fun K hK => ?_)
          refine value_ (w1 := ?_) (v := ?_) (by rfl) rfl ?_ ?_
          rotate_left 2
          · go_simp
            constructor
            · rfl
            · rfl
          refine hK.out _ _ ⟨(blk_cell (blk_alloc BK687.out _) 0).trans rfl, (blk_cell (blk_alloc BK687.out _) 1).trans rfl⟩ (fun hHeld => ?_)
          clear hK K
          refine norm_ (a' := ?_) ?_ ?_
          rotate_left
          · show Act.put _ (some 30) _ = _
            simp only [Act.put, List.setIfInBounds_toArray, List.set_cons_zero, List.set_cons_succ, i64_w, i32_w]
            rfl
          refine one_ (i := 4) (N := some 31) #[true, true, true, true, true, false, false, false, false, false] rfl rfl (one_of HT_.out (by kernel_rfl)) (by decide) (fun K hK => ?_)
          refine Kd.S_append_step k63 (w0 := w) w.heap.size (by rfl) (.tmp 28) (.tmp 30) 72 63 (.agg #[(.int .i64 0), (.int .i64 0), (.slice none 0 0)]) 40 rfl Try.underlying72 info63 rfl (by decide) (by omega) v689 t688 (⟨2, 0, ([] : List Int)⟩ : S63) [.int .i64 2, .int .i64 0, .slice none 0 0] (fun _ => True) (fun _ => False) rfl rfl ?aP (fun k_ hk_ => hk_.elim) ?aF ?aO ?aB ?aS ?aL ?_
          (case aP => exact k63_mkM _ _ _ (⟨2, 0, ([] : List Int)⟩ : S63) (Kd.R_nil _ _ _ _ _))
          (case aB => exact (by repeat (first | (with_reducible first | exact HB.out | apply below_alloc | apply pw_below_drewN | apply below_drew1 | refine below_set ?_ GE679.out | refine below_set ?_ GE687.out) | exact HB.out)))
          (case aF => exact (fun _ _ => trivial))
          (case aO => exact (by (with_reducible repeat (first | apply Kd.S_alloc | apply Kd.S_drewN | apply Kd.S_drew)); exact Kd.S_mono HO690.out (fun k_ hk => ⟨trivial, fun e_ => e_⟩)))
          (case aS => exact (below_size (by repeat (first | (with_reducible first | exact HB.out | apply below_alloc | apply pw_below_drewN | apply below_drew1 | refine below_set ?_ GE679.out | refine below_set ?_ GE687.out) | exact HB.out))))
          (case aL => have := LMc9.out; omega)
          intro v693 w19 ho hb hg hat
          rw [← Ny692.out] at ho
          have n0_ := Aside0.mk (blk_grown (g := gb679) (o := .cells #[.slice none 0 0, .slice none 0 0] 44 (0, 0)) (by (with_reducible repeat (first | refine blk_drewN ?_ _ | refine blk_drew ?_ | refine blk_alloc ?_ _)); exact BK679.out) hg (Kd.S_ne HO690.out BK679.out (by decide)))
          have n1_ := Aside0.mk (Kd.S_over' (by (with_reducible repeat (first | apply Kd.S_alloc | apply Kd.S_drewN | apply Kd.S_drew)); exact HO682.out) (Kd.S_typed (by (with_reducible repeat (first | apply Kd.S_alloc | apply Kd.S_drewN | apply Kd.S_drew)); exact HO690.out)) (by decide) hg)
          have n2_ := Aside0.mk (Kd.S_over' (by (with_reducible repeat (first | apply Kd.S_alloc | apply Kd.S_drewN | apply Kd.S_drew)); exact HO685.out) (Kd.S_typed (by (with_reducible repeat (first | apply Kd.S_alloc | apply Kd.S_drewN | apply Kd.S_drew)); exact HO690.out)) (by decide) hg)
          have n3_ := Aside0.mk (blk_grown (g := gb687) (o := .cells #[.slice Ao13 t680.length co13, .slice Ao16 t683.length co16] 44 (0, 0)) (by (with_reducible repeat (first | refine blk_drewN ?_ _ | refine blk_drew ?_ | refine blk_alloc ?_ _)); exact BK687.out) hg (Kd.S_ne HO690.out BK687.out (by decide)))
          have n4_ := Aside0.mk (hb)
          have n5_ := Aside0.mk (ho)
          clear BK679
          clear HO682
          clear HO685
          clear BK687
          clear HB
          clear HO690
          have BK679 := n0_
          have HO682 := n1_
          have HO685 := n2_
          have BK687 := n3_
          have HB := n4_
          have HO694 := n5_
          clear n0_ n1_ n2_ n3_ n4_ n5_
          clear ho hb hg hat
          obtain ⟨Ao20, co20, eo20⟩ := Kd.S_slice HO694.out
          (first | subst eo20 | (injection eo20 with f1_ f2_ f3_; have f4_ := f1_.symm; have f5_ := f3_.symm; clear f1_ f2_ f3_; subst f4_; subst f5_))
          refine hK.out _ _ ⟨(blk_cell BK687.out 0).trans rfl, (blk_cell BK687.out 1).trans rfl⟩ (fun hHeld => ?_)
          clear hK K
          refine norm_ (a' := ?_) ?_ ?_
          rotate_left
          · show Act.put _ (some 31) _ = _
            simp only [Act.put, List.setIfInBounds_toArray, List.set_cons_zero, List.set_cons_succ, i64_w, i32_w]
            rfl
          refine one_ (i := 5) (N := some 32) #[true, true, true, true, true, true, false, false, false, false] rfl rfl (one_of HT_.out (by kernel_rfl)) (by decide) (fun K hK => ?_)
          refine goes_ Try.func43 (by kernel_rfl) rfl #[.agg #[.slice Ao13 t680.length co13, .slice Ao16 t683.length co16], .slice Ao20 y692.length co20, .int .i64 5] (by rfl) rfl rfl (by (try simp only [List.map_toArray, List.map_cons, List.map_nil]); first | done | rfl | (simp only [List.length_drop, List.length_take]; rfl)) ?_
          with_reducible refine (spec_PlayF.calls _ _ t680 _ _ t683 _ _ y692 5 t695 t698 t701 _ ?side1 ?side2 ?side3 ?side4 ?side5 ?side6 A10.out).mono ?_
          (case side1 => repeat (first | exact (Kd.S_reads' HO682.out).2.2 | (with_reducible refine Kd.C_alloc ?_ _) | (with_reducible refine Kd.C_drewN ?_ _) | (with_reducible refine Kd.C_drew ?_)))
          (case side2 => exact (Kd.S_reads' HO682.out).2.1)
          (case side3 => repeat (first | exact (Kd.S_reads' HO685.out).2.2 | (with_reducible refine Kd.C_alloc ?_ _) | (with_reducible refine Kd.C_drewN ?_ _) | (with_reducible refine Kd.C_drew ?_)))
          (case side4 => exact (Kd.S_reads' HO685.out).2.1)
          (case side5 => repeat (first | exact (Kd.S_reads' HO694.out).2.2 | (with_reducible refine Kd.C_alloc ?_ _) | (with_reducible refine Kd.C_drewN ?_ _) | (with_reducible refine Kd.C_drew ?_)))
          (case side6 => exact (Kd.S_reads' HO694.out).2.1)
          rintro e w21 ⟨v696, v699, rfl, ho0, ho1, hb⟩
          refine ⟨_, rfl, ?_⟩
          have n0_ := Aside0.mk (Kd.S_elder' (by (with_reducible repeat (first | apply Kd.S_alloc | apply Kd.S_drewN | apply Kd.S_drew)); exact HO682.out) (Kd.S_base ho0) hb)
          have n1_ := Aside0.mk (Kd.S_elder' (by (with_reducible repeat (first | apply Kd.S_alloc | apply Kd.S_drewN | apply Kd.S_drew)); exact HO685.out) (Kd.S_base ho1) hb)
          have n2_ := Aside0.mk (Kd.S_below (by (with_reducible repeat (first | apply Kd.S_alloc | apply Kd.S_drewN | apply Kd.S_drew)); exact HO694.out) hb)
          have n3_ := Aside0.mk (Kd.S_lower (Kd.S_new' ho0 (Kd.S_lt (by (with_reducible repeat (first | apply Kd.S_alloc | apply Kd.S_drewN | apply Kd.S_drew)); exact HO682.out))) (below_size (by repeat (first | (with_reducible first | exact HB.out | apply below_alloc | apply pw_below_drewN | apply below_drew1 | refine below_set ?_ GE679.out | refine below_set ?_ GE687.out) | exact HB.out))))
          have n4_ := Aside0.mk (Kd.S_lower (Kd.S_new' ho1 (Kd.S_lt (by (with_reducible repeat (first | apply Kd.S_alloc | apply Kd.S_drewN | apply Kd.S_drew)); exact HO685.out))) (below_size (by repeat (first | (with_reducible first | exact HB.out | apply below_alloc | apply pw_below_drewN | apply below_drew1 | refine below_set ?_ GE679.out | refine below_set ?_ GE687.out) | exact HB.out))))
          have n5_ := Aside0.mk (blk_below (g := gb679) (o := .cells #[.slice none 0 0, .slice none 0 0] 44 (0, 0)) (by (with_reducible repeat (first | refine blk_drewN ?_ _ | refine blk_drew ?_ | refine blk_alloc ?_ _)); exact BK679.out) hb)
          have n6_ := Aside0.mk (blk_below (g := gb687) (o := .cells #[.slice Ao13 t680.length co13, .slice Ao16 t683.length co16] 44 (0, 0)) (by (with_reducible repeat (first | refine blk_drewN ?_ _ | refine blk_drew ?_ | refine blk_alloc ?_ _)); exact BK687.out) hb)
          have n7_ := Aside0.mk (below_step (by repeat (first | (with_reducible first | exact HB.out | apply below_alloc | apply pw_below_drewN | apply below_drew1 | refine below_set ?_ GE679.out | refine below_set ?_ GE687.out) | exact HB.out)) hb)
          clear HO682
          clear HO685
          clear HO694
          clear BK679
          clear BK687
          clear HB
          have HO682 := n0_
          have HO685 := n1_
          have HO694 := n2_
          have HO697 := n3_
          have HO700 := n4_
          have BK679 := n5_
          have BK687 := n6_
          have HB := n7_
          clear n0_ n1_ n2_ n3_ n4_ n5_ n6_ n7_
          (try clear hb)
          (try clear hb2)
          (try clear hk)
          (try clear hi)
          (try clear ho0)
          (try clear ho1)
          obtain ⟨Ao22, co22, eo22⟩ := Kd.S_slice HO697.out
          (first | subst eo22 | (injection eo22 with f1_ f2_ f3_; have f4_ := f1_.symm; have f5_ := f3_.symm; clear f1_ f2_ f3_; subst f4_; subst f5_))
          obtain ⟨Ao24, co24, eo24⟩ := Kd.S_slice HO700.out
          (first | subst eo24 | (injection eo24 with f1_ f2_ f3_; have f4_ := f1_.symm; have f5_ := f3_.symm; clear f1_ f2_ f3_; subst f4_; subst f5_))
          refine hK.out _ _ ⟨(blk_cell BK687.out 0).trans rfl, (blk_cell BK687.out 1).trans rfl⟩ (fun hHeld => ?_)
          clear hK K
          refine norm_ (a' := ?_) ?_ ?_
          rotate_left
          · show Act.put _ (some 32) _ = _
            simp only [Act.put, List.setIfInBounds_toArray, List.set_cons_zero, List.set_cons_succ, i64_w, i32_w]
            rfl
          refine pure_ (i := 6) (N := some 26) (v := ?_) (a' := ?_) #[true, true, true, true, true, true, true, false, false, false] rfl rfl (any_of HT_.out (by kernel_rfl)) (fun _ _ _ h => h) (Or.inl ⟨by rfl, ?_⟩) ?_ ?_
          rotate_left
          · intro w'
            go_simp
            with_reducible rfl
          rotate_left
          · simp only [Act.put, List.setIfInBounds_toArray, List.set_cons_zero, List.set_cons_succ, i64_w, i32_w]
            rfl
          refine pure_ (i := 7) (N := some 33) (v := ?_) (a' := ?_) #[true, true, true, true, true, true, true, true, false, false] rfl rfl (any_of HT_.out (by kernel_rfl)) (fun _ _ _ h => h) (Or.inl ⟨by rfl, ?_⟩) ?_ ?_
          rotate_left
          · intro w'
            go_simp
            with_reducible rfl
          rotate_left
          · simp only [Act.put, List.setIfInBounds_toArray, List.set_cons_zero, List.set_cons_succ, i64_w, i32_w]
            rfl
          refine pure_ (i := 8) (N := some 34) (v := ?_) (a' := ?_) #[true, true, true, true, true, true, true, true, true, false] rfl rfl (any_of HT_.out (by kernel_rfl)) (fun _ _ _ h => h) (Or.inl ⟨by rfl, ?_⟩) ?_ ?_
          rotate_left
          · intro w'
            go_simp
            with_reducible rfl
          rotate_left
          · simp only [Act.put, List.setIfInBounds_toArray, List.set_cons_zero, List.set_cons_succ, i64_w, i32_w]
            rfl
          refine last_ (i := 9) (N := none) #[true, true, true, true, true, true, true, true, true, true] rfl rfl (one_of HT_.out (by kernel_rfl)) (by decide) (fun K hK => ?_)
          have hs23 : w21.cell? ⟨gb687, 0, none⟩ = some (.slice Ao13 t680.length co13) := (blk_cell BK687.out 0).trans rfl
          have hfs23 := blk_frozen BK687.out 0
          have hns23_0 := NB679_687.out
          have hms23_0 := NB687_679.out
          have hs25 : w21.cell? ⟨gb687, 1, none⟩ = some (.slice Ao16 t683.length co16) := (blk_cell BK687.out 1).trans rfl
          have hfs25 := blk_frozen BK687.out 1
          have hns25_0 := NB679_687.out
          have hms25_0 := NB687_679.out
          refine skip_ (w1 := ?_) (by rfl) rfl ?_ ?_
          rotate_left
          · go_simp
            rfl
          refine hK.out _ _ ?_
          clear hK K
          refine done_ (done_of HT_.out (by kernel_rfl)) ?_
          have hcz26_0 : w21.cell? ⟨gb687, 0, none⟩ = some (.slice Ao13 t680.length co13) := (blk_cell BK687.out 0).trans rfl
          have hcz26_1 : w21.cell? ⟨gb687, 1, none⟩ = some (.slice Ao16 t683.length co16) := (blk_cell BK687.out 1).trans rfl
          have hfz26_0 := blk_frozen BK687.out 0
          have hfz26_1 := blk_frozen BK687.out 1
          have hcz27_0 : w21.cell? ⟨gb679, 0, none⟩ = some (.slice none 0 0) := (blk_cell BK679.out 0).trans rfl
          have hcz27_1 : w21.cell? ⟨gb679, 1, none⟩ = some (.slice none 0 0) := (blk_cell BK679.out 1).trans rfl
          have hfz27_0 := blk_frozen BK679.out 0
          have hfz27_1 := blk_frozen BK679.out 1
          try go_wp2
          refine bodyPost_ret (results_ct rfl _ _ gb679 44 #[.slice Ao22 t695.length co22, .slice Ao24 t698.length co24] (0, 0) _ rfl (by (with_reducible repeat (first | refine blk_drewN ?_ _ | refine blk_drew ?_ | refine blk_alloc ?_ _)); refine blk_put (cs := #[.slice Ao22 t695.length co22, .slice none 0 0]) ?_ 1 _ rfl; (with_reducible repeat (first | refine blk_drewN ?_ _ | refine blk_drew ?_ | refine blk_alloc ?_ _)); refine blk_put (cs := #[.slice none 0 0, .slice none 0 0]) ?_ 0 _ rfl; (with_reducible repeat (first | refine blk_drewN ?_ _ | refine blk_drew ?_ | refine blk_alloc ?_ _)); refine blk_far ?_ NB679_687.out _; (with_reducible repeat (first | refine blk_drewN ?_ _ | refine blk_drew ?_ | refine blk_alloc ?_ _)); refine blk_far ?_ NB679_687.out _; (with_reducible repeat (first | refine blk_drewN ?_ _ | refine blk_drew ?_ | refine blk_alloc ?_ _)); exact BK679.out) Try.underlying44 rfl (by kernel_rfl)) rfl ?_
          exact ⟨_, _, by first | rfl | (simp [errW_none, errW_some] <;> rfl) | (simp [*, errW_none, errW_some] <;> rfl), by (with_reducible repeat (first | apply Kd.S_alloc | apply Kd.S_drewN | apply Kd.S_drew)); exact Kd.S_mono (Kd.S_far (p := ⟨gb679, 1, none⟩) (Kd.S_far (p := ⟨gb679, 0, none⟩) (Kd.S_far (p := ⟨gb687, 1, none⟩) (Kd.S_far (p := ⟨gb687, 0, none⟩) (Kd.S_types (Kd.S_types HO697.out BK687.out (by decide)) BK679.out (by decide)) (fun _ hk => hk.1.2) (.slice Ao22 t695.length co22)) (fun _ hk => hk.1.2) (.slice Ao24 t698.length co24)) (fun _ hk => hk.2) (.slice Ao22 t695.length co22)) (fun _ hk => hk.2) (.slice Ao24 t698.length co24)) (fun _ hk => trivial), by (with_reducible repeat (first | apply Kd.S_alloc | apply Kd.S_drewN | apply Kd.S_drew)); exact Kd.S_mono (Kd.S_far (p := ⟨gb679, 1, none⟩) (Kd.S_far (p := ⟨gb679, 0, none⟩) (Kd.S_far (p := ⟨gb687, 1, none⟩) (Kd.S_far (p := ⟨gb687, 0, none⟩) (Kd.S_types (Kd.S_types HO700.out BK687.out (by decide)) BK679.out (by decide)) (fun _ hk => hk.1.2) (.slice Ao22 t695.length co22)) (fun _ hk => hk.1.2) (.slice Ao24 t698.length co24)) (fun _ hk => hk.2) (.slice Ao22 t695.length co22)) (fun _ hk => hk.2) (.slice Ao24 t698.length co24)) (fun _ hk => trivial), by repeat (first | (with_reducible first | exact HB.out | apply below_alloc | apply pw_below_drewN | apply below_drew1 | refine below_set ?_ GE679.out | refine below_set ?_ GE687.out) | exact HB.out)⟩
        · rw [if_neg c9] at H
          exact absurd H (by simp)

end Go.Proofs.Ytlopmffdebhpfaa.G

/-! ## G152 -/
namespace Go.Proofs.Ytlopmffdebhpfaa.G
open Go.RowKit Go.Proofs.YtlopmffdebhpfaaW.PrintWords Go.Proofs.YtlopmffdebhpfaaW.PrintLast Go.Proofs.YtlopmffdebhpfaaW.PrintMore
attribute [local go_sem] max2_int min2_int max_two min_two max_three min_three max_four min_four
set_option linter.unusedVariables false
set_option linter.unusedSimpArgs false

/-! ### impl_PageOps: function 152 -/
def impl_PageOps.l0 : Nat → Int → List Int → List (S63) → Int → Option ((List (S63)) × Bool)
  | 0, _, _, _, _ => none
  | k + 1, x0, x8, x10, x21 => if x21 < 4 then (if 0 ≤ (wrap64 (x21 * 64)) then (if (wrap64 (x21 * 64)) ≤ (wrap64 ((wrap64 (x21 + 1)) * 64)) then (if (wrap64 ((wrap64 (x21 + 1)) * 64)) ≤ (x8.length : Int) then ((bytes_Clone.f ((x8.take ((wrap64 ((wrap64 (x21 + 1)) * 64)) : Int).toNat).drop ((wrap64 (x21 * 64)) : Int).toNat)).bind fun t709 => (if x10.length < 3518437208883 then (impl_PageOps.l0 k x0 x8 (x10 ++ [(⟨1, wrap64 ((wrap64 (4 * x0)) + x21), t709⟩ : S63)]) (wrap64 (x21 + 1))) else (none))) else (none)) else (none)) else (none)) else (some (x10, true))
def impl_PageOps.f (k : Nat) (a0 : Int) (a1 : Int) (l2 : List Int) : Option ((List (S63)) × Bool) := (impl_EncodePage.f k a0 a1 l2).bind fun bt701 => (if bt701.2 = true then (impl_PageOps.l0 k a0 bt701.1 ([] : List (S63)) 0) else (some (([] : List (S63)), false)))
set_option maxHeartbeats 8000000 in
set_option maxRecDepth 100000 in
theorem impl_PageOps.calls (k : Nat) (a0 : Int) (a1 : Int) (A2 : Option Addr) (c2 : Nat) (l2 : List Int) (r1 : List (S63)) (r2 : Bool) (w : World) (hr2 : Kd.C (Kd.int .u8) w A2 l2.length l2) (hc2 : l2.length ≤ c2) (h : impl_PageOps.f k a0 a1 l2 = some (r1, r2)) :
    Calls Try.prog 152 #[.int .i64 a0, .int .i64 a1, .slice A2 l2.length c2] w fun e w' => ∃ v0_ : Value, e = .returned (.tuple #[v0_, .bool r2]) ∧ Kd.S k63 63 w' w.heap.size (fun _ => True) v0_ r1 ∧ Below w.heap.size w w' := by
  have hu63 := Try.underlying63
  have HR2 := Aside0.mk hr2
  have HC2 := Aside0.mk hc2
  clear hr2 hc2
  have HB := Aside0.mk (Below.refl w.heap.size w)
  have H : ((impl_EncodePage.f k a0 a1 l2).bind fun bt701 => (if bt701.2 = true then (impl_PageOps.l0 k a0 bt701.1 ([] : List (S63)) 0) else (some (([] : List (S63)), false)))) = some (r1, r2) := h
  clear h
  replace H := Option.bind_eq_some_iff.mp H
  obtain ⟨⟨t701, t702⟩, A40, H⟩ := H
  replace H : (if t702 = true then (impl_PageOps.l0 k a0 t701 ([] : List (S63)) 0) else (some (([] : List (S63)), false))) = some (r1, r2) := H
  have A4 := Aside0.mk A40
  clear A40
  by_cases c5 : t702 = true
  · subst c5
    have H1 : (impl_PageOps.l0 k a0 t701 ([] : List (S63)) 0) = some (r1, r2) := by rw [if_pos rfl] at H; exact H
    clear H
    have H := H1
    clear H1
    have H' := Aside0.mk H
    clear H
    go_enter Try.func152, Try.ntmps152
    go_wp2_with (first | ((with_reducible refine gate_callee (f := 22) rfl ?_); refine goesL_ (some 16) rfl rfl Try.func22 (by kernel_rfl) rfl #[.int .i64 a0, .int .i64 a1, .slice A2 l2.length c2] rfl (by (try simp only [List.map_toArray, List.map_cons, List.map_nil]); first | done | rfl | (simp only [List.length_drop, List.length_take]; rfl)) ?_; (with_reducible refine (impl_EncodePage.calls k a0 a1 _ _ l2 t701 true _ ?side1 ?side2 A4.out).mono ?_); (case side1 => repeat (first | exact HR2.out | (with_reducible refine Kd.C_alloc ?_ _) | (with_reducible refine Kd.C_drewN ?_ _) | (with_reducible refine Kd.C_drew ?_))); (case side2 => exact HC2.out); rintro e w6 ⟨v703, rfl, ho0, hb⟩; refine ⟨_, rfl, ?_⟩; have n0_ := Aside0.mk (Kd.R_lower ho0 (below_size (by repeat (first | (with_reducible first | exact HB.out | apply below_alloc | apply pw_below_drewN | apply below_drew1) | exact HB.out)))); have n1_ := Aside0.mk (below_step (by repeat (first | (with_reducible first | exact HB.out | apply below_alloc | apply pw_below_drewN | apply below_drew1) | exact HB.out)) hb); clear HB; have HO704 := n0_; have HB := n1_; clear n0_ n1_; (try clear hb); (try clear hb2); (try clear hk); (try clear hi); (try clear ho0)))
    go_loopg [10, 21] k (fun kq v10 v21 w' => ∃ (x10_1 : List (S63)) (x21_1 : Int), v21 = .int .i64 x21_1 ∧ Aside0 (impl_PageOps.l0 kq a0 t701 x10_1 x21_1 = some (r1, r2)) ∧ Aside0 (kq ≤ k) ∧ Aside0 (Kd.R (Kd.int .u8) 5 w' w.heap.size (fun _ => True) v703 t701) ∧ Aside0 (Kd.S k63 63 w' w.heap.size (fun k_ => some k_ ≠ (v703 : Value).ownBlock) v10 x10_1) ∧ Aside0 (Below w.heap.size w w'))
    case atStart => exact ⟨(([] : List (S63))), (0), (by first | rfl | (simp; done) | (simp [*]; done)), H', ⟨Nat.le_refl _⟩, ⟨by (with_reducible repeat (first | apply Kd.R_alloc | apply Kd.R_drewN | apply Kd.R_drew)); exact HO704.out⟩, ⟨by first | exact Kd.S_nil _ _ _ _ _ | exact Kd.N_nil _ _ _ _ _ | exact Kd.V_nil _ _ _ _ _ | exact Kd.Q_nil _ _ _ _ _ | exact Kd.R_nil _ _ _ _ _⟩, ⟨by repeat (first | (with_reducible first | exact HB.out | apply below_alloc | apply pw_below_drewN | apply below_drew1) | exact HB.out)⟩⟩
    case round =>
      clear H'
      try clear c1
      try clear c2
      try clear p2
      try clear c5
      obtain ⟨x10_1, x21_1, rfl, HA, HK1, HO_8, HO_10, HB⟩ := hrel
      cases gk with
      | zero => exact absurd HA.out (by simp [impl_PageOps.l0])
      | succ k1 =>
        have H := HA.out
        clear HA
        simp only [impl_PageOps.l0] at H
        by_cases c7 : x21_1 < 4
        · rw [if_pos c7] at H
          have c7b0 : decide (x21_1 < 4) = true := decide_eq_true c7
          clear c7
          obtain ⟨ji8, hji8⟩ : ∃ j_ : Int, (wrap64 (x21_1 * 64)) = j_ := ⟨_, rfl⟩
          replace H : (if 0 ≤ (ji8) then (if (ji8) ≤ (wrap64 ((wrap64 (x21_1 + 1)) * 64)) then (if (wrap64 ((wrap64 (x21_1 + 1)) * 64)) ≤ (t701.length : Int) then ((bytes_Clone.f ((t701.take ((wrap64 ((wrap64 (x21_1 + 1)) * 64)) : Int).toNat).drop ((ji8) : Int).toNat)).bind fun t709 => (if x10_1.length < 3518437208883 then (impl_PageOps.l0 k1 a0 t701 (x10_1 ++ [(⟨1, wrap64 ((wrap64 (4 * a0)) + x21_1), t709⟩ : S63)]) (wrap64 (x21_1 + 1))) else (none))) else (none)) else (none)) else (none)) = some (r1, r2) := by first | (rw [hji8] at H; exact H) | (simp only [hji8] at H ⊢; exact H)
          have hji8w : (IntKind.i64.wrap (x21_1 * 64)) = ji8 := (i64_w _).trans hji8
          by_cases c9 : 0 ≤ (ji8)
          · rw [if_pos c9] at H
            have c9b0 := eq_true c9
            have c9b1 : decide (0 ≤ (ji8)) = true := decide_eq_true c9
            clear c9
            by_cases c10 : (ji8) ≤ (wrap64 ((wrap64 (x21_1 + 1)) * 64))
            · rw [if_pos c10] at H
              have c10b0 := eq_true c10
              have c10b1 : decide ((ji8) ≤ (wrap64 ((wrap64 (x21_1 + 1)) * 64))) = true := decide_eq_true c10
              by_cases c11 : (wrap64 ((wrap64 (x21_1 + 1)) * 64)) ≤ (t701.length : Int)
              · rw [if_pos c11] at H
                have c11b0 := eq_true c11
                have c11b1 : decide ((wrap64 ((wrap64 (x21_1 + 1)) * 64)) ≤ (t701.length : Int)) = true := decide_eq_true c11
                obtain ⟨y705, hy705⟩ : ∃ y_ : List Int, y_ = ((t701.take ((wrap64 ((wrap64 (x21_1 + 1)) * 64)) : Int).toNat).drop ((ji8) : Int).toNat) := ⟨_, rfl⟩
                replace H : ((bytes_Clone.f y705).bind fun t709 => (if x10_1.length < 3518437208883 then (impl_PageOps.l0 k1 a0 t701 (x10_1 ++ [(⟨1, wrap64 ((wrap64 (4 * a0)) + x21_1), t709⟩ : S63)]) (wrap64 (x21_1 + 1))) else (none))) = some (r1, r2) := by first | (rw [hy705]; with_reducible exact H) | (have H2_ := (Option.bind_some _ _).symm.trans H; rw [hy705]; with_reducible exact H2_) | (have H2_ := (Option.bind_some _ _).symm.trans H; with_reducible exact H2_) | with_reducible exact H | (rw [hy705]; exact H) | exact H
                have Ny705 := Aside0.mk hy705
                clear hy705
                replace H := Option.bind_eq_some_iff.mp H
                obtain ⟨t709, A120, H⟩ := H
                replace H : (if x10_1.length < 3518437208883 then (impl_PageOps.l0 k1 a0 t701 (x10_1 ++ [(⟨1, wrap64 ((wrap64 (4 * a0)) + x21_1), t709⟩ : S63)]) (wrap64 (x21_1 + 1))) else (none)) = some (r1, r2) := H
                have A12 := Aside0.mk A120
                clear A120
                by_cases c13 : x10_1.length < 3518437208883
                · rw [if_pos c13] at H
                  have LMc13 := Aside0.mk c13
                  clear c13
                  obtain ⟨y712, hy712⟩ : ∃ y_ : List (S63), y_ = (x10_1 ++ [(⟨1, wrap64 ((wrap64 (4 * a0)) + x21_1), t709⟩ : S63)]) := ⟨_, rfl⟩
                  replace H : (impl_PageOps.l0 k1 a0 t701 y712 (wrap64 (x21_1 + 1))) = some (r1, r2) := by first | (rw [hy712]; with_reducible exact H) | (have H2_ := (Option.bind_some _ _).symm.trans H; rw [hy712]; with_reducible exact H2_) | (have H2_ := (Option.bind_some _ _).symm.trans H; with_reducible exact H2_) | with_reducible exact H | (rw [hy712]; exact H) | exact H
                  have Ny712 := Aside0.mk hy712
                  clear hy712
                  have H' := Aside0.mk H
                  clear H
                  obtain ⟨Ao15, co15, eo15⟩ := Kd.R_slice HO_8.out
                  subst eo15
                  have q14 : ((wrap64 ((wrap64 (x21_1 + 1)) * 64)) : Int) ≤ ((t701.length : Int) : Int) := of_decide_eq_true (by first | (with_reducible assumption) | assumption)
                  obtain ⟨i014, hi014, _, hsz14, _⟩ := info_parts info5
                  have hroom14 : t701.length ≤ co15 := (Kd.R_reads' HO_8.out).2.1
                  have hC14 : Kd.C (Kd.int .u8) _ Ao15 t701.length t701 := (Kd.R_reads' HO_8.out).2.2
                  have ql14 : ((ji8) : Int) ≤ ((wrap64 ((wrap64 (x21_1 + 1)) * 64)) : Int) := of_decide_eq_true (by first | (with_reducible assumption) | assumption)
                  have q014 : (0 : Int) ≤ ((ji8) : Int) := of_decide_eq_true (by first | (with_reducible assumption) | assumption)
                  have hcut14 := cut_mid (P := Try.prog) 22 5 .i64 .i64 Try.underlying22 hi014 1 hsz14 Ao15 t701.length co15 (ji8) (wrap64 ((wrap64 (x21_1 + 1)) * 64)) q014 ql14 q14 hroom14
                  have hr14 := Kd.C_mid (lo := ((ji8) : Int).toNat) (hi := ((wrap64 ((wrap64 (x21_1 + 1)) * 64)) : Int).toNat) (c := co15) hC14 (by omega) (by omega) hroom14
                  obtain ⟨A14, hA14⟩ : ∃ A1, A1 = (if co15 = ((ji8) : Int).toNat then Ao15 else (Ao15 : Option Addr).map (·.add (((ji8) : Int).toNat * 1))) := ⟨_, rfl⟩
                  obtain ⟨c14, hc14⟩ : ∃ c1, c1 = co15 - ((ji8) : Int).toNat := ⟨_, rfl⟩
                  have hy14 : y705.length = ((wrap64 ((wrap64 (x21_1 + 1)) * 64)) : Int).toNat - ((ji8) : Int).toNat := (by rw [Ny705.out, List.length_drop, List.length_take] <;> omega)
                  rw [show ((t701).take ((wrap64 ((wrap64 (x21_1 + 1)) * 64)) : Int).toNat).drop ((ji8) : Int).toNat = y705 from Ny705.out.symm] at hr14
                  replace hr14 : Kd.C (Kd.int .u8) _ A14 y705.length y705 := (by rw [hA14]; exact hr14)
                  rw [← hy14, ← hA14, ← hc14] at hcut14
                  have HR708 := Aside0.mk hr14
                  have HC708 := Aside0.mk (show y705.length ≤ c14 from by rw [hy14, hc14]; exact Nat.sub_le_sub_right (Nat.le_trans (by omega) hroom14) _)
                  clear hr14 hC14 hroom14 hi014 hsz14 hc14
                  have KY14 := Aside0.mk hy14
                  have KA14 := Aside0.mk hA14
                  clear hy14 hA14
                  have KL14 := Aside0.mk (show ((wrap64 ((wrap64 (x21_1 + 1)) * 64)) : Int).toNat ≤ t701.length from by omega)
                  have KM14 := Aside0.mk (show ((ji8) : Int).toNat ≤ ((wrap64 ((wrap64 (x21_1 + 1)) * 64)) : Int).toNat from by omega)
                  replace q14 := eq_true q14
                  go_wp2_with (first | ((with_reducible refine gate_callee (f := 72) rfl ?_); refine goesL_ (some 36) rfl rfl Try.func72 (by kernel_rfl) rfl #[.slice A14 y705.length c14] rfl (by (try simp only [List.map_toArray, List.map_cons, List.map_nil]); first | done | rfl | (simp only [List.length_drop, List.length_take]; rfl)) ?_; (with_reducible refine (bytes_Clone.calls _ _ y705 t709 _ ?side1 ?side2 A12.out).mono ?_); (case side1 => repeat (first | exact (by repeat (first | (with_reducible exact HR708.out) | (with_reducible refine Kd.C_alloc ?_ _) | (with_reducible refine Kd.C_drewN ?_ _) | (with_reducible refine Kd.C_drew ?_) | exact HR708.out)) | (with_reducible refine Kd.C_alloc ?_ _) | (with_reducible refine Kd.C_drewN ?_ _) | (with_reducible refine Kd.C_drew ?_))); (case side2 => exact HC708.out); rintro e w16 ⟨v710, rfl, ho0, hb⟩; refine ⟨_, rfl, ?_⟩; have n0_ := Aside0.mk (Kd.R_elder' (by (with_reducible repeat (first | apply Kd.R_alloc | apply Kd.R_drewN | apply Kd.R_drew)); exact HO_8.out) (Kd.R_base ho0) hb); have n1_ := Aside0.mk (Kd.S_elder' (by (with_reducible repeat (first | apply Kd.S_alloc | apply Kd.S_drewN | apply Kd.S_drew)); exact HO_10.out) (Kd.R_base ho0) hb); have n2_ := Aside0.mk (Kd.R_lower (Kd.R_new' ho0 (Kd.R_lt (by (with_reducible repeat (first | apply Kd.R_alloc | apply Kd.R_drewN | apply Kd.R_drew)); exact HO_8.out))) (below_size (by repeat (first | (with_reducible first | exact HB.out | apply below_alloc | apply pw_below_drewN | apply below_drew1) | exact HB.out)))); have n3_ := Aside0.mk (Kd.C_below (by repeat (first | (with_reducible exact HR708.out) | (with_reducible refine Kd.C_alloc ?_ _) | (with_reducible refine Kd.C_drewN ?_ _) | (with_reducible refine Kd.C_drew ?_) | exact HR708.out)) hb); have n4_ := Aside0.mk (below_step (by repeat (first | (with_reducible first | exact HB.out | apply below_alloc | apply pw_below_drewN | apply below_drew1) | exact HB.out)) hb); clear HO_8; clear HO_10; clear HR708; clear HB; have HO_8 := n0_; have HO_10 := n1_; have HO711 := n2_; have HR708 := n3_; have HB := n4_; clear n0_ n1_ n2_ n3_ n4_; (try clear hb); (try clear hb2); (try clear hk); (try clear hi); (try clear ho0); obtain ⟨Ao17, co17, eo17⟩ := Kd.R_slice HO711.out; subst eo17) | ((with_reducible refine gate_builtin (b := .append) (xs := #[.tmp 24, .tmp 38]) rfl ?_); at_builtin; refine Kd.S_append k63 (w0 := w) w.heap.size rfl (.tmp 24) (.tmp 38) 72 63 (.agg #[(.int .i64 0), (.int .i64 0), (.slice none 0 0)]) 40 rfl Try.underlying72 info63 rfl (by decide) (by omega) u10 x10_1 (⟨1, wrap64 ((wrap64 (4 * a0)) + x21_1), t709⟩ : S63) [.int .i64 1, .int .i64 (wrap64 ((wrap64 (4 * a0)) + x21_1)), .slice Ao17 t709.length co17] (fun k_ => some k_ ≠ (.slice Ao15 t701.length co15 : Value).ownBlock) (fun k_ => some k_ = (.slice Ao17 t709.length co17 : Value).ownBlock) rfl rfl ?aP (fun k_ hk_ => ((Kd.R_mono (ok' := fun k_ => ((fun k_ => some k_ ≠ (.slice Ao15 t701.length co15 : Value).ownBlock)) k_ ∧ some k_ ≠ (u10 : Value).ownBlock) (Kd.R_apart' (HO711.out) (Kd.S_typed HO_10.out) (by decide)) (fun k_ hk => ⟨hk.1.2, hk.2⟩))).1 k_ hk_.symm) ?aF ?aO ?aB ?aS ?aL ?_; (case aP => exact k63_mkM _ _ _ (⟨1, wrap64 ((wrap64 (4 * a0)) + x21_1), t709⟩ : S63) (Kd.R_mono (Kd.R_tight rfl (Kd.R_mono (ok' := fun k_ => ((fun k_ => some k_ ≠ (.slice Ao15 t701.length co15 : Value).ownBlock)) k_ ∧ some k_ ≠ (u10 : Value).ownBlock) (Kd.R_apart' (HO711.out) (Kd.S_typed HO_10.out) (by decide)) (fun k_ hk => ⟨hk.1.2, hk.2⟩))) (fun _ h_ => h_))); (case aB => exact (by repeat (first | (with_reducible first | exact HB.out | apply below_alloc | apply pw_below_drewN | apply below_drew1) | exact HB.out))); (case aF => exact (fun k_ hk => Kd.fresh' (Kd.R_lt (by (with_reducible repeat (first | apply Kd.R_alloc | apply Kd.R_drewN | apply Kd.R_drew)); exact HO_8.out)) k_ hk)); (case aO => exact (by (with_reducible repeat (first | apply Kd.S_alloc | apply Kd.S_drewN | apply Kd.S_drew)); exact Kd.S_mono HO_10.out (fun k_ hk => ⟨hk.1, fun e_ => hk.2 e_⟩))); (case aS => exact (below_size (by repeat (first | (with_reducible first | exact HB.out | apply below_alloc | apply pw_below_drewN | apply below_drew1) | exact HB.out)))); (case aL => have := LMc13.out; omega); intro v713 w18 ho hb hg hat; rw [← Ny712.out] at ho; have n0_ := Aside0.mk (Kd.R_over' (by (with_reducible repeat (first | apply Kd.R_alloc | apply Kd.R_drewN | apply Kd.R_drew)); exact HO_8.out) (Kd.S_typed (by (with_reducible repeat (first | apply Kd.S_alloc | apply Kd.S_drewN | apply Kd.S_drew)); exact HO_10.out)) (by decide) hg); have n1_ := Aside0.mk (hb); have n2_ := Aside0.mk ((show Kd.C (Kd.int .u8) w18 A14 y705.length y705 from by rw [Ny705.out, KA14.out]; exact Kd.C_mid (lo := ((ji8) : Int).toNat) (hi := ((wrap64 ((wrap64 (x21_1 + 1)) * 64)) : Int).toNat) (c := co15) ((Kd.R_reads' (Kd.R_over' (by (with_reducible repeat (first | apply Kd.R_alloc | apply Kd.R_drewN | apply Kd.R_drew)); exact HO_8.out) (Kd.S_typed (by (with_reducible repeat (first | apply Kd.S_alloc | apply Kd.S_drewN | apply Kd.S_drew)); exact HO_10.out)) (by decide) hg)).2.2) KM14.out KL14.out ((Kd.R_reads' (Kd.R_over' (by (with_reducible repeat (first | apply Kd.R_alloc | apply Kd.R_drewN | apply Kd.R_drew)); exact HO_8.out) (Kd.S_typed (by (with_reducible repeat (first | apply Kd.S_alloc | apply Kd.S_drewN | apply Kd.S_drew)); exact HO_10.out)) (by decide) hg)).2.1))); have n3_ := Aside0.mk (ho); clear HO_8; clear HB; clear HR708; clear HO_10; clear HO711; have HO_8 := n0_; have HB := n1_; have HR708 := n2_; have HO714 := n3_; clear n0_ n1_ n2_ n3_; clear ho hb hg hat))
                  go_roundg k1
                  case measure => have := HK1.out; omega
                  case rel => exact ⟨(y712), (wrap64 (x21_1 + 1)), (by first | rfl | (simp; done) | (simp [*]; done)), H', ⟨by have := HK1.out; omega⟩, ⟨by (with_reducible repeat (first | apply Kd.R_alloc | apply Kd.R_drewN | apply Kd.R_drew)); exact Kd.R_mono HO_8.out (fun _ hk => trivial)⟩, ⟨by (with_reducible repeat (first | apply Kd.S_alloc | apply Kd.S_drewN | apply Kd.S_drew)); exact HO714.out⟩, ⟨by repeat (first | (with_reducible first | exact HB.out | apply below_alloc | apply pw_below_drewN | apply below_drew1) | exact HB.out)⟩⟩
                · rw [if_neg c13] at H
                  exact absurd H (by simp)
              · rw [if_neg c11] at H
                exact absurd H (by simp)
            · rw [if_neg c10] at H
              exact absurd H (by simp)
          · rw [if_neg c9] at H
            exact absurd H (by simp)
        · rw [if_neg c7] at H
          have c7b0 : decide (x21_1 < 4) = false := decide_eq_false c7
          clear c7
          simp only [Option.some.injEq, Prod.mk.injEq] at H
          obtain ⟨rfl, rfl⟩ := H
          go_wp2
          go_ret2
          exact ⟨_, by first | rfl | (simp [errW_none, errW_some] <;> rfl) | (simp [*, errW_none, errW_some] <;> rfl), by (with_reducible repeat (first | apply Kd.S_alloc | apply Kd.S_drewN | apply Kd.S_drew)); exact Kd.S_mono HO_10.out (fun _ hk => trivial), by repeat (first | (with_reducible first | exact HB.out | apply below_alloc | apply pw_below_drewN | apply below_drew1) | exact HB.out)⟩
  · replace c5 := Bool.eq_false_iff.mpr c5
    subst c5
    have H1 : (some (([] : List (S63)), false)) = some (r1, r2) := by rw [if_neg (show ¬ (false = true) by decide)] at H; exact H
    clear H
    have H := H1
    clear H1
    simp only [Option.some.injEq, Prod.mk.injEq] at H
    obtain ⟨rfl, rfl⟩ := H
    go_enter Try.func152, Try.ntmps152
    go_wp2_with (first | ((with_reducible refine gate_callee (f := 22) rfl ?_); refine goesL_ (some 16) rfl rfl Try.func22 (by kernel_rfl) rfl #[.int .i64 a0, .int .i64 a1, .slice A2 l2.length c2] rfl (by (try simp only [List.map_toArray, List.map_cons, List.map_nil]); first | done | rfl | (simp only [List.length_drop, List.length_take]; rfl)) ?_; (with_reducible refine (impl_EncodePage.calls k a0 a1 _ _ l2 t701 false _ ?side1 ?side2 A4.out).mono ?_); (case side1 => repeat (first | exact HR2.out | (with_reducible refine Kd.C_alloc ?_ _) | (with_reducible refine Kd.C_drewN ?_ _) | (with_reducible refine Kd.C_drew ?_))); (case side2 => exact HC2.out); rintro e w19 ⟨v703, rfl, ho0, hb⟩; refine ⟨_, rfl, ?_⟩; have n0_ := Aside0.mk (Kd.R_lower ho0 (below_size (by repeat (first | (with_reducible first | exact HB.out | apply below_alloc | apply pw_below_drewN | apply below_drew1) | exact HB.out)))); have n1_ := Aside0.mk (below_step (by repeat (first | (with_reducible first | exact HB.out | apply below_alloc | apply pw_below_drewN | apply below_drew1) | exact HB.out)) hb); clear HB; have HO704 := n0_; have HB := n1_; clear n0_ n1_; (try clear hb); (try clear hb2); (try clear hk); (try clear hi); (try clear ho0)))
    go_ret2
    exact ⟨_, by first | rfl | (simp [errW_none, errW_some] <;> rfl) | (simp [*, errW_none, errW_some] <;> rfl), by first | exact Kd.S_nil _ _ _ _ _ | exact Kd.N_nil _ _ _ _ _ | exact Kd.V_nil _ _ _ _ _ | exact Kd.Q_nil _ _ _ _ _ | exact Kd.R_nil _ _ _ _ _, by repeat (first | (with_reducible first | exact HB.out | apply below_alloc | apply pw_below_drewN | apply below_drew1) | exact HB.out)⟩

end Go.Proofs.Ytlopmffdebhpfaa.G

/-! ## SV -/
namespace Go.Proofs.Ytlopmffdebhpfaa.G
open Go.RowKit Go.Proofs.YtlopmffdebhpfaaW.PrintWords Go.Proofs.YtlopmffdebhpfaaW.PrintLast Go.Proofs.YtlopmffdebhpfaaW.PrintMore
set_option linter.unusedVariables false
set_option linter.unusedSimpArgs false

def okPlace (used id : Int) : Bool := decide (id = 0 ∨ (2 ≤ id ∧ id < used))
def okSuper (gen root used free : Int) : Bool := decide (1 ≤ gen ∧ gen ≤ 1000000000000 ∧ 2 ≤ used ∧ used ≤ 1024) && (okPlace used root && okPlace used free)
set_option maxHeartbeats 4000000 in
set_option maxRecDepth 100000 in
theorem impl_Super_valid_1.calls (gb : Nat) (gen root used free id : Int) (w : World) (hb : w.heap[gb]? = some (.cells #[.int .i64 gen, .int .i64 root, .int .i64 used, .int .i64 free] 81 (0, 0))) :
    Calls Try.prog 169 #[.int .i64 id, .pointer (some ⟨gb, 0, none⟩)] w fun e w' => e = .returned (.bool (okPlace used id)) ∧ w' = w := by
  have hu81 := Try.underlying81
  have hc2 : w.cell? ⟨gb, 2, none⟩ = some (.int .i64 used) := (blk_cell hb 2).trans rfl
  clear hb
  unfold okPlace
  by_cases h1 : id = 0
  · have d1 : (id == 0) = true := beq_iff_eq.mpr h1
    rw [decide_eq_true (.inl h1)]
    clear h1
    go_enter Try.func169, Try.ntmps169
    go_wp2_with fail
    go_ret
    exact ⟨rfl, rfl⟩
  · have d1 : (id == 0) = false := beq_eq_false_iff_ne.mpr h1
    by_cases h2 : 2 ≤ id
    · have d2 : decide (2 ≤ id) = true := decide_eq_true h2
      by_cases h3 : id < used
      · have d3 : decide (id < used) = true := decide_eq_true h3
        rw [decide_eq_true (.inr ⟨h2, h3⟩)]
        clear h1 h2 h3
        go_enter Try.func169, Try.ntmps169
        go_wp2_with fail
        go_ret
        exact ⟨rfl, rfl⟩
      · have d3 : decide (id < used) = false := decide_eq_false h3
        rw [decide_eq_false (fun h => by omega)]
        clear h1 h2 h3
        go_enter Try.func169, Try.ntmps169
        go_wp2_with fail
        go_ret
        exact ⟨rfl, rfl⟩
    · have d2 : decide (2 ≤ id) = false := decide_eq_false h2
      rw [decide_eq_false (fun h => by omega)]
      clear h1 h2
      go_enter Try.func169, Try.ntmps169
      go_wp2_with fail
      go_ret
      exact ⟨rfl, rfl⟩
set_option maxHeartbeats 4000000 in
set_option maxRecDepth 100000 in
theorem impl_Super_valid.calls (gen root used free : Int) (r : Bool) (w : World) (h : okSuper gen root used free = r) :
    Calls Try.prog 151 #[.agg #[.int .i64 gen, .int .i64 root, .int .i64 used, .int .i64 free]] w fun e w' => e = .returned (.bool r) ∧ Below w.heap.size w w' := by
  have hu81 := Try.underlying81
  unfold okSuper at h
  by_cases h1 : 1 ≤ gen
  · have d0 : decide (1 ≤ gen) = true := decide_eq_true h1
    by_cases h2 : gen ≤ 1000000000000
    · have d1 : decide (gen ≤ 1000000000000) = true := decide_eq_true h2
      by_cases h3 : 2 ≤ used
      · have d2 : decide (2 ≤ used) = true := decide_eq_true h3
        by_cases h4 : used ≤ 1024
        · have d3 : decide (used ≤ 1024) = true := decide_eq_true h4
          cases hp : okPlace used root with
          | false =>
            rw [hp] at h
            rw [decide_eq_true (show 1 ≤ gen ∧ gen ≤ 1000000000000 ∧ 2 ≤ used ∧ used ≤ 1024 from ⟨h1, h2, h3, h4⟩)] at h
            have HP := Aside0.mk hp
            clear hp h1 h2 h3 h4
            go_enter Try.func151, Try.ntmps151
            go_wp2_with (first | ((with_reducible refine gate_dst (N := 1) rfl ?_); refine box_event ?hg (N := 1) ?hd (cs := #[.int .i64 gen, .int .i64 root, .int .i64 used, .int .i64 free]) (t := 81) ?hr ?_; (case hd => rfl); (case hg => rfl); (case hr => first | (go_simp; done) | (go_simp; rfl)); intro gb hgr w1 hbox hbel; have BD := Aside0.mk hbox; have HB := Aside0.mk hbel; have hc0 : w1.cell? ⟨gb, 0, none⟩ = some (.int .i64 gen) := (blk_cell hbox 0).trans rfl; have hc1 : w1.cell? ⟨gb, 1, none⟩ = some (.int .i64 root) := (blk_cell hbox 1).trans rfl; have hc2 : w1.cell? ⟨gb, 2, none⟩ = some (.int .i64 used) := (blk_cell hbox 2).trans rfl; have hc3 : w1.cell? ⟨gb, 3, none⟩ = some (.int .i64 free) := (blk_cell hbox 3).trans rfl; clear hbox hbel hgr))
            refine (impl_Super_valid_1.calls gb gen root used free root w1 BD.out).mono ?_
            rintro e w2 ⟨rfl, rfl⟩
            have hpo := HP.out
            rw [hpo]
            clear hpo
            go_wp2_with fail
            go_ret
            exact ⟨by rw [← h]; first | rfl | simp, HB.out⟩
          | true =>
            rw [hp] at h
            rw [decide_eq_true (show 1 ≤ gen ∧ gen ≤ 1000000000000 ∧ 2 ≤ used ∧ used ≤ 1024 from ⟨h1, h2, h3, h4⟩)] at h
            have HP := Aside0.mk hp
            clear hp h1 h2 h3 h4
            go_enter Try.func151, Try.ntmps151
            go_wp2_with (first | ((with_reducible refine gate_dst (N := 1) rfl ?_); refine box_event ?hg (N := 1) ?hd (cs := #[.int .i64 gen, .int .i64 root, .int .i64 used, .int .i64 free]) (t := 81) ?hr ?_; (case hd => rfl); (case hg => rfl); (case hr => first | (go_simp; done) | (go_simp; rfl)); intro gb hgr w1 hbox hbel; have BD := Aside0.mk hbox; have HB := Aside0.mk hbel; have hc0 : w1.cell? ⟨gb, 0, none⟩ = some (.int .i64 gen) := (blk_cell hbox 0).trans rfl; have hc1 : w1.cell? ⟨gb, 1, none⟩ = some (.int .i64 root) := (blk_cell hbox 1).trans rfl; have hc2 : w1.cell? ⟨gb, 2, none⟩ = some (.int .i64 used) := (blk_cell hbox 2).trans rfl; have hc3 : w1.cell? ⟨gb, 3, none⟩ = some (.int .i64 free) := (blk_cell hbox 3).trans rfl; clear hbox hbel hgr))
            refine (impl_Super_valid_1.calls gb gen root used free root w1 BD.out).mono ?_
            rintro e w2 ⟨rfl, rfl⟩
            have hpo := HP.out
            rw [hpo]
            clear hpo
            go_wp2_with fail
            refine (impl_Super_valid_1.calls gb gen root used free free w2 BD.out).mono ?_
            rintro e w3 ⟨rfl, rfl⟩
            go_wp2_with fail
            go_ret
            exact ⟨by rw [← h]; first | rfl | simp, HB.out⟩
        · have d3 : decide (used ≤ 1024) = false := decide_eq_false h4
          rw [decide_eq_false (fun hh => by omega)] at h
          clear h1 h2 h3 h4
          go_enter Try.func151, Try.ntmps151
          go_wp2_with (first | ((with_reducible refine gate_dst (N := 1) rfl ?_); refine box_event ?hg (N := 1) ?hd (cs := #[.int .i64 gen, .int .i64 root, .int .i64 used, .int .i64 free]) (t := 81) ?hr ?_; (case hd => rfl); (case hg => rfl); (case hr => first | (go_simp; done) | (go_simp; rfl)); intro gb hgr w1 hbox hbel; have BD := Aside0.mk hbox; have HB := Aside0.mk hbel; have hc0 : w1.cell? ⟨gb, 0, none⟩ = some (.int .i64 gen) := (blk_cell hbox 0).trans rfl; have hc1 : w1.cell? ⟨gb, 1, none⟩ = some (.int .i64 root) := (blk_cell hbox 1).trans rfl; have hc2 : w1.cell? ⟨gb, 2, none⟩ = some (.int .i64 used) := (blk_cell hbox 2).trans rfl; have hc3 : w1.cell? ⟨gb, 3, none⟩ = some (.int .i64 free) := (blk_cell hbox 3).trans rfl; clear hbox hbel hgr))
          go_ret
          exact ⟨by rw [← h]; first | rfl | simp, HB.out⟩
      · have d2 : decide (2 ≤ used) = false := decide_eq_false h3
        rw [decide_eq_false (fun hh => by omega)] at h
        clear h1 h2 h3
        go_enter Try.func151, Try.ntmps151
        go_wp2_with (first | ((with_reducible refine gate_dst (N := 1) rfl ?_); refine box_event ?hg (N := 1) ?hd (cs := #[.int .i64 gen, .int .i64 root, .int .i64 used, .int .i64 free]) (t := 81) ?hr ?_; (case hd => rfl); (case hg => rfl); (case hr => first | (go_simp; done) | (go_simp; rfl)); intro gb hgr w1 hbox hbel; have BD := Aside0.mk hbox; have HB := Aside0.mk hbel; have hc0 : w1.cell? ⟨gb, 0, none⟩ = some (.int .i64 gen) := (blk_cell hbox 0).trans rfl; have hc1 : w1.cell? ⟨gb, 1, none⟩ = some (.int .i64 root) := (blk_cell hbox 1).trans rfl; have hc2 : w1.cell? ⟨gb, 2, none⟩ = some (.int .i64 used) := (blk_cell hbox 2).trans rfl; have hc3 : w1.cell? ⟨gb, 3, none⟩ = some (.int .i64 free) := (blk_cell hbox 3).trans rfl; clear hbox hbel hgr))
        go_ret
        exact ⟨by rw [← h]; first | rfl | simp, HB.out⟩
    · have d1 : decide (gen ≤ 1000000000000) = false := decide_eq_false h2
      rw [decide_eq_false (fun hh => by omega)] at h
      clear h1 h2
      go_enter Try.func151, Try.ntmps151
      go_wp2_with (first | ((with_reducible refine gate_dst (N := 1) rfl ?_); refine box_event ?hg (N := 1) ?hd (cs := #[.int .i64 gen, .int .i64 root, .int .i64 used, .int .i64 free]) (t := 81) ?hr ?_; (case hd => rfl); (case hg => rfl); (case hr => first | (go_simp; done) | (go_simp; rfl)); intro gb hgr w1 hbox hbel; have BD := Aside0.mk hbox; have HB := Aside0.mk hbel; have hc0 : w1.cell? ⟨gb, 0, none⟩ = some (.int .i64 gen) := (blk_cell hbox 0).trans rfl; have hc1 : w1.cell? ⟨gb, 1, none⟩ = some (.int .i64 root) := (blk_cell hbox 1).trans rfl; have hc2 : w1.cell? ⟨gb, 2, none⟩ = some (.int .i64 used) := (blk_cell hbox 2).trans rfl; have hc3 : w1.cell? ⟨gb, 3, none⟩ = some (.int .i64 free) := (blk_cell hbox 3).trans rfl; clear hbox hbel hgr))
      go_ret
      exact ⟨by rw [← h]; first | rfl | simp, HB.out⟩
  · have d0 : decide (1 ≤ gen) = false := decide_eq_false h1
    rw [decide_eq_false (fun hh => by omega)] at h
    clear h1
    go_enter Try.func151, Try.ntmps151
    go_wp2_with (first | ((with_reducible refine gate_dst (N := 1) rfl ?_); refine box_event ?hg (N := 1) ?hd (cs := #[.int .i64 gen, .int .i64 root, .int .i64 used, .int .i64 free]) (t := 81) ?hr ?_; (case hd => rfl); (case hg => rfl); (case hr => first | (go_simp; done) | (go_simp; rfl)); intro gb hgr w1 hbox hbel; have BD := Aside0.mk hbox; have HB := Aside0.mk hbel; have hc0 : w1.cell? ⟨gb, 0, none⟩ = some (.int .i64 gen) := (blk_cell hbox 0).trans rfl; have hc1 : w1.cell? ⟨gb, 1, none⟩ = some (.int .i64 root) := (blk_cell hbox 1).trans rfl; have hc2 : w1.cell? ⟨gb, 2, none⟩ = some (.int .i64 used) := (blk_cell hbox 2).trans rfl; have hc3 : w1.cell? ⟨gb, 3, none⟩ = some (.int .i64 free) := (blk_cell hbox 3).trans rfl; clear hbox hbel hgr))
    go_ret
    exact ⟨by rw [← h]; first | rfl | simp, HB.out⟩
end Go.Proofs.Ytlopmffdebhpfaa.G

/-! ## SVP -/
namespace Go.Proofs.Ytlopmffdebhpfaa.G
open Go.RowKit Go.Proofs.YtlopmffdebhpfaaW.PrintWords Go.Proofs.YtlopmffdebhpfaaW.PrintLast Go.Proofs.YtlopmffdebhpfaaW.PrintMore
def impl_SuperV.f (a b c d : Int) : Option Bool := some (okSuper a b c d)
theorem impl_SuperV.calls (a b c d : Int) (r : Bool) (w : World) (h : impl_SuperV.f a b c d = some r) :
    Calls Try.prog 151 #[.agg #[.int .i64 a, .int .i64 b, .int .i64 c, .int .i64 d]] w fun e w' => e = .returned (.bool r) ∧ Below w.heap.size w w' :=
  impl_Super_valid.calls a b c d r w (Option.some.inj h)
end Go.Proofs.Ytlopmffdebhpfaa.G
