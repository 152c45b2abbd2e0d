/- Texts of this proof, joined in their build order: G130 G79 G131 Parse Err Page Enc G15 G17 G18 G19 Dec Mark G85 G138 G86 G26 ToDisk MarkD LMap LSet LawL Mu Dev Sec G154 G87 DPage. -/
import Derived.Test.YtlopmffdebhpfaaK13a
import Derived.Test.YtlopmffdebhpfaaProg
import Derived.WalkKit
import Derived.LaidEql
import Derived.Stop.Asserts
import Derived.RowKitTokens
import Derived.KernelRfl
import Derived.Maps.OwnSet
import Derived.Conc.MuLone
import Derived.WalkSpells
import Derived.Stop.IfaceNil
/-! ## G130 -/
namespace Go.Proofs.Ytlopmffdebhpfaa.G
open Go.RowKit Go.Proofs.YtlopmffdebhpfaaW.PrintWords Go.Proofs.YtlopmffdebhpfaaW.PrintLast Go.Proofs.YtlopmffdebhpfaaW.PrintMore
attribute [local go_sem] max2_int min2_int max_two min_two max_three min_three max_four min_four
set_option linter.unusedVariables false
set_option linter.unusedSimpArgs false

/-! ### impl_numberAt: function 130 -/
def impl_numberAt.l0 : Nat → Int → List Int → Int → Int → Option (Int)
  | 0, _, _, _, _ => none
  | k + 1, x3, x6, x7, x8 => if x8 < x7 then (if 0 ≤ x8 then (if x8 < (x6.length : Int) then (if 0 ≤ (wrap64 (8 * x8)) then (impl_numberAt.l0 k (Go.bits .or .i64 x3 (shl .i64 (wrap64 (rd x6 x8)) (wrap64 (8 * x8)))) x6 x7 (wrap64 (x8 + 1))) else (none)) else (none)) else (none)) else (some x3)
def impl_numberAt.f (k : Nat) (l0 : List Int) : Option (Int) := impl_numberAt.l0 k 0 l0 (l0.length : Int) 0
set_option maxHeartbeats 8000000 in
set_option maxRecDepth 100000 in
theorem impl_numberAt.calls (k : Nat) (A0 : Option Addr) (c0 : Nat) (l0 : List Int) (r : Int) (w : World) (hr0 : Kd.C (Kd.int .u8) w A0 l0.length l0) (hc0 : l0.length ≤ c0) (h : impl_numberAt.f k l0 = some r) :
    Calls Try.prog 130 #[.slice A0 l0.length c0] w fun e w' => e = .returned (.int .i64 r) ∧ Drawn0 w w' := by
  have HR0 := Aside0.mk hr0
  have HC0 := Aside0.mk hc0
  clear hr0 hc0
  have H : (impl_numberAt.l0 k 0 l0 (l0.length : Int) 0) = some r := h
  clear h
  have H' := Aside0.mk H
  clear H
  go_enter Try.func130, Try.ntmps130
  go_wp2
  go_loopg [3, 8] k (fun kq v3 v8 w' => ∃ (x3_1 : Int) (x8_1 : Int), v3 = .int .i64 x3_1 ∧ v8 = .int .i64 x8_1 ∧ Aside0 (impl_numberAt.l0 kq x3_1 l0 (l0.length : Int) x8_1 = some r) ∧ Aside0 (kq ≤ k) ∧ Drawn0 w w')
  case atStart => exact ⟨(0), (0), (by first | rfl | (simp; done) | (simp [*]; done)), (by first | rfl | (simp; done) | (simp [*]; done)), H', ⟨Nat.le_refl _⟩, by repeat (first | exact Drawn0.refl _ | apply Drawn0.step)⟩
  case round =>
    clear H'
    try clear c1
    obtain ⟨x3_1, x8_1, rfl, rfl, HA, HK1, ⟨m1, rfl⟩⟩ := hrel
    cases gk with
    | zero => exact absurd HA.out (by simp [impl_numberAt.l0])
    | succ k1 =>
      have H := HA.out
      clear HA
      simp only [impl_numberAt.l0] at H
      by_cases c2 : x8_1 < (l0.length : Int)
      · rw [if_pos c2] at H
        have c2b0 : decide (x8_1 < (l0.length : Int)) = true := decide_eq_true c2
        clear c2
        by_cases c3 : 0 ≤ x8_1
        · rw [if_pos c3] at H
          have c3b0 : decide (0 ≤ x8_1) = true := decide_eq_true c3
          clear c3
          by_cases c4 : x8_1 < (l0.length : Int)
          · rw [if_pos c4] at H
            have c4b0 : decide (x8_1 < (l0.length : Int)) = true := decide_eq_true c4
            clear c4
            obtain ⟨ji5, hji5⟩ : ∃ j_ : Int, (wrap64 (8 * x8_1)) = j_ := ⟨_, rfl⟩
            replace H : (if 0 ≤ (ji5) then (impl_numberAt.l0 k1 (Go.bits .or .i64 x3_1 (shl .i64 (wrap64 (rd l0 x8_1)) (ji5))) l0 (l0.length : Int) (wrap64 (x8_1 + 1))) else (none)) = some r := by first | (rw [hji5] at H; exact H) | (simp only [hji5] at H ⊢; exact H)
            have hji5w : (IntKind.i64.wrap (8 * x8_1)) = ji5 := (i64_w _).trans hji5
            by_cases c6 : 0 ≤ (ji5)
            · rw [if_pos c6] at H
              have c6b0 := eq_true c6
              have c6b1 : decide (0 ≤ (ji5)) = true := decide_eq_true c6
              clear c6
              obtain ⟨ji7, hji7⟩ : ∃ j_ : Int, (shl .i64 (wrap64 (rd l0 x8_1)) (ji5)) = j_ := ⟨_, rfl⟩
              replace H : (impl_numberAt.l0 k1 (Go.bits .or .i64 x3_1 (ji7)) l0 (l0.length : Int) (wrap64 (x8_1 + 1))) = some r := by first | (rw [hji7] at H; exact H) | (simp only [hji7] at H ⊢; exact H)
              have hji7_ : (IntKind.i64.wrap ((wrap64 (rd l0 x8_1)) * 2 ^ min (ji5).toNat 64)) = ji7 := hji7
              have hji7z : (ji5) ≤ 64 → (IntKind.i64.wrap ((wrap64 (rd l0 x8_1)) * 2 ^ (ji5).toNat)) = ji7 := shl_small hji7
              have hji7y : (wrap64 ((wrap64 (rd l0 x8_1)) * 2 ^ min (ji5).toNat 64)) = ji7 := (i64_w _).symm.trans hji7_
              have hji7x : (ji5) ≤ 64 → (wrap64 ((wrap64 (rd l0 x8_1)) * 2 ^ (ji5).toNat)) = ji7 := fun h_ => (i64_w _).symm.trans (hji7z h_)
              have H' := Aside0.mk H
              clear H
              have p450 : 0 ≤ (x8_1 : Int) := of_decide_eq_true (by first | (with_reducible assumption) | assumption)
              have q450 : x8_1 < (l0.length : Int) := of_decide_eq_true (by first | (with_reducible assumption) | assumption)
              obtain ⟨ad450, e450, hx450_0⟩ := Kd.at_int HR0.out x8_1 p450 q450
              cases e450
              replace p450 := eq_true p450
              replace q450 := eq_true q450
              go_wp2
              go_roundg k1
              case measure => have := HK1.out; omega
              case rel => exact ⟨(Go.bits .or .i64 x3_1 (ji7)), (wrap64 (x8_1 + 1)), (by first | rfl | (simp; done) | (simp only [← hji7] <;> (first | rfl | simp)) | (simp [*]; done)), (by first | rfl | (simp; done) | (simp [*]; done)), H', ⟨by have := HK1.out; omega⟩, by repeat (first | exact Drawn0.refl _ | apply Drawn0.step)⟩
            · rw [if_neg c6] at H
              exact absurd H (by simp)
          · rw [if_neg c4] at H
            exact absurd H (by simp)
        · rw [if_neg c3] at H
          exact absurd H (by simp)
      · rw [if_neg c2] at H
        have c2b0 : decide (x8_1 < (l0.length : Int)) = false := decide_eq_false c2
        clear c2
        obtain rfl := Option.some.inj H
        go_wp2
        go_ret
        exact ⟨by first | rfl | (simp; done) | (simp [*]; done), by repeat (first | exact Drawn0.refl _ | apply Drawn0.step)⟩

end Go.Proofs.Ytlopmffdebhpfaa.G

/-! ## G79 -/
namespace Go.Proofs.Ytlopmffdebhpfaa.G
open Go.RowKit Go.Proofs.YtlopmffdebhpfaaW.PrintWords Go.Proofs.YtlopmffdebhpfaaW.PrintLast Go.Proofs.YtlopmffdebhpfaaW.PrintMore
attribute [local go_sem] max2_int min2_int max_two min_two max_three min_three max_four min_four
set_option linter.unusedVariables false
set_option linter.unusedSimpArgs false

/-! ### impl_head_valid: function 79 -/
def impl_head_valid.f (a0_0 : Int) (a0_1 : Int) (a0_2 : Int) : Option (Bool) := if a0_0 ≥ 0 then (if a0_0 ≤ 1023 then (if a0_1 ≥ 1 then (if a0_1 ≤ 4 then (some (decide (a0_2 ≤ 240))) else (some false)) else (some false)) else (some false)) else (some false)
set_option maxHeartbeats 8000000 in
set_option maxRecDepth 100000 in
theorem impl_head_valid.calls (a0_0 : Int) (a0_1 : Int) (a0_2 : Int) (r : Bool) (w : World) (h : impl_head_valid.f a0_0 a0_1 a0_2 = some r) :
    Calls Try.prog 79 #[.agg #[.int .i64 a0_0, .int .i64 a0_1, .int .i64 a0_2]] w fun e w' => e = .returned (.bool r) ∧ Below w.heap.size w w' := by
  have hu100 := Try.underlying100
  have HB := Aside0.mk (Below.refl w.heap.size w)
  have H : (if a0_0 ≥ 0 then (if a0_0 ≤ 1023 then (if a0_1 ≥ 1 then (if a0_1 ≤ 4 then (some (decide (a0_2 ≤ 240))) else (some false)) else (some false)) else (some false)) else (some false)) = some r := h
  clear h
  by_cases c2 : a0_0 ≥ 0
  · rw [if_pos c2] at H
    have c2b0 : decide (0 ≤ a0_0) = true := decide_eq_true c2
    clear c2
    by_cases c3 : a0_0 ≤ 1023
    · rw [if_pos c3] at H
      have c3b0 : decide (a0_0 ≤ 1023) = true := decide_eq_true c3
      clear c3
      by_cases c4 : a0_1 ≥ 1
      · rw [if_pos c4] at H
        have c4b0 : decide (1 ≤ a0_1) = true := decide_eq_true c4
        clear c4
        by_cases c5 : a0_1 ≤ 4
        · rw [if_pos c5] at H
          have c5b0 : decide (a0_1 ≤ 4) = true := decide_eq_true c5
          clear c5
          obtain rfl := Option.some.inj H
          go_enter Try.func79, Try.ntmps79
          go_wp2_with (first | ((with_reducible refine gate_dst (N := 1) rfl ?_); refine box_event ?hg (N := 1) ?hd (cs := #[.int .i64 a0_0, .int .i64 a0_1, .int .i64 a0_2]) (t := 100) ?hr ?_; (case hd => rfl); (case hg => rfl); (case hr => first | (go_simp; done) | (go_simp; rfl)); intro gb729 hg w6 hbox hb; have n0_ := Aside0.mk (below_step (by repeat (first | (with_reducible first | exact HB.out | apply below_alloc | apply pw_below_drewN | apply below_drew1) | exact HB.out)) hb); have n1_ := Aside0.mk (hbox); have n2_ := Aside0.mk ((by rw [hg]; exact (below_size (by repeat (first | (with_reducible first | exact HB.out | apply below_alloc | apply pw_below_drewN | apply below_drew1) | exact HB.out))) : w.heap.size ≤ gb729)); have n3_ := Aside0.mk ((by rw [hg]; exact (below_size (by repeat (first | (with_reducible first | exact HB.out | apply below_alloc | apply pw_below_drewN | apply below_drew1) | exact HB.out))) : w.heap.size ≤ gb729)); clear HB; have HB := n0_; have BK729 := n1_; have GW729 := n2_; have GE729 := n3_; clear n0_ n1_ n2_ n3_; clear hb hbox hg; have hcz7_0 : w6.cell? ⟨gb729, 0, none⟩ = some (.int .i64 a0_0) := (blk_cell BK729.out 0).trans rfl; have hcz7_1 : w6.cell? ⟨gb729, 1, none⟩ = some (.int .i64 a0_1) := (blk_cell BK729.out 1).trans rfl; have hcz7_2 : w6.cell? ⟨gb729, 2, none⟩ = some (.int .i64 a0_2) := (blk_cell BK729.out 2).trans rfl; have hfz7_0 := blk_frozen BK729.out 0; have hfz7_1 := blk_frozen BK729.out 1; have hfz7_2 := blk_frozen BK729.out 2))
          go_ret
          exact ⟨by first | rfl | (simp [errW_none, errW_some] <;> rfl) | (simp [*, errW_none, errW_some] <;> rfl), by repeat (first | (with_reducible first | exact HB.out | apply below_alloc | apply pw_below_drewN | apply below_drew1 | refine below_set ?_ GE729.out) | exact HB.out)⟩
        · rw [if_neg c5] at H
          have c5b0 : decide (a0_1 ≤ 4) = false := decide_eq_false c5
          clear c5
          obtain rfl := Option.some.inj H
          go_enter Try.func79, Try.ntmps79
          go_wp2_with (first | ((with_reducible refine gate_dst (N := 1) rfl ?_); refine box_event ?hg (N := 1) ?hd (cs := #[.int .i64 a0_0, .int .i64 a0_1, .int .i64 a0_2]) (t := 100) ?hr ?_; (case hd => rfl); (case hg => rfl); (case hr => first | (go_simp; done) | (go_simp; rfl)); intro gb729 hg w8 hbox hb; have n0_ := Aside0.mk (below_step (by repeat (first | (with_reducible first | exact HB.out | apply below_alloc | apply pw_below_drewN | apply below_drew1) | exact HB.out)) hb); have n1_ := Aside0.mk (hbox); have n2_ := Aside0.mk ((by rw [hg]; exact (below_size (by repeat (first | (with_reducible first | exact HB.out | apply below_alloc | apply pw_below_drewN | apply below_drew1) | exact HB.out))) : w.heap.size ≤ gb729)); have n3_ := Aside0.mk ((by rw [hg]; exact (below_size (by repeat (first | (with_reducible first | exact HB.out | apply below_alloc | apply pw_below_drewN | apply below_drew1) | exact HB.out))) : w.heap.size ≤ gb729)); clear HB; have HB := n0_; have BK729 := n1_; have GW729 := n2_; have GE729 := n3_; clear n0_ n1_ n2_ n3_; clear hb hbox hg; have hcz9_0 : w8.cell? ⟨gb729, 0, none⟩ = some (.int .i64 a0_0) := (blk_cell BK729.out 0).trans rfl; have hcz9_1 : w8.cell? ⟨gb729, 1, none⟩ = some (.int .i64 a0_1) := (blk_cell BK729.out 1).trans rfl; have hcz9_2 : w8.cell? ⟨gb729, 2, none⟩ = some (.int .i64 a0_2) := (blk_cell BK729.out 2).trans rfl; have hfz9_0 := blk_frozen BK729.out 0; have hfz9_1 := blk_frozen BK729.out 1; have hfz9_2 := blk_frozen BK729.out 2))
          go_ret
          exact ⟨by first | rfl | (simp [errW_none, errW_some] <;> rfl) | (simp [*, errW_none, errW_some] <;> rfl), by repeat (first | (with_reducible first | exact HB.out | apply below_alloc | apply pw_below_drewN | apply below_drew1 | refine below_set ?_ GE729.out) | exact HB.out)⟩
      · rw [if_neg c4] at H
        have c4b0 : decide (1 ≤ a0_1) = false := decide_eq_false c4
        clear c4
        obtain rfl := Option.some.inj H
        go_enter Try.func79, Try.ntmps79
        go_wp2_with (first | ((with_reducible refine gate_dst (N := 1) rfl ?_); refine box_event ?hg (N := 1) ?hd (cs := #[.int .i64 a0_0, .int .i64 a0_1, .int .i64 a0_2]) (t := 100) ?hr ?_; (case hd => rfl); (case hg => rfl); (case hr => first | (go_simp; done) | (go_simp; rfl)); intro gb729 hg w10 hbox hb; have n0_ := Aside0.mk (below_step (by repeat (first | (with_reducible first | exact HB.out | apply below_alloc | apply pw_below_drewN | apply below_drew1) | exact HB.out)) hb); have n1_ := Aside0.mk (hbox); have n2_ := Aside0.mk ((by rw [hg]; exact (below_size (by repeat (first | (with_reducible first | exact HB.out | apply below_alloc | apply pw_below_drewN | apply below_drew1) | exact HB.out))) : w.heap.size ≤ gb729)); have n3_ := Aside0.mk ((by rw [hg]; exact (below_size (by repeat (first | (with_reducible first | exact HB.out | apply below_alloc | apply pw_below_drewN | apply below_drew1) | exact HB.out))) : w.heap.size ≤ gb729)); clear HB; have HB := n0_; have BK729 := n1_; have GW729 := n2_; have GE729 := n3_; clear n0_ n1_ n2_ n3_; clear hb hbox hg; have hcz11_0 : w10.cell? ⟨gb729, 0, none⟩ = some (.int .i64 a0_0) := (blk_cell BK729.out 0).trans rfl; have hcz11_1 : w10.cell? ⟨gb729, 1, none⟩ = some (.int .i64 a0_1) := (blk_cell BK729.out 1).trans rfl; have hcz11_2 : w10.cell? ⟨gb729, 2, none⟩ = some (.int .i64 a0_2) := (blk_cell BK729.out 2).trans rfl; have hfz11_0 := blk_frozen BK729.out 0; have hfz11_1 := blk_frozen BK729.out 1; have hfz11_2 := blk_frozen BK729.out 2))
        go_ret
        exact ⟨by first | rfl | (simp [errW_none, errW_some] <;> rfl) | (simp [*, errW_none, errW_some] <;> rfl), by repeat (first | (with_reducible first | exact HB.out | apply below_alloc | apply pw_below_drewN | apply below_drew1 | refine below_set ?_ GE729.out) | exact HB.out)⟩
    · rw [if_neg c3] at H
      have c3b0 : decide (a0_0 ≤ 1023) = false := decide_eq_false c3
      clear c3
      obtain rfl := Option.some.inj H
      go_enter Try.func79, Try.ntmps79
      go_wp2_with (first | ((with_reducible refine gate_dst (N := 1) rfl ?_); refine box_event ?hg (N := 1) ?hd (cs := #[.int .i64 a0_0, .int .i64 a0_1, .int .i64 a0_2]) (t := 100) ?hr ?_; (case hd => rfl); (case hg => rfl); (case hr => first | (go_simp; done) | (go_simp; rfl)); intro gb729 hg w12 hbox hb; have n0_ := Aside0.mk (below_step (by repeat (first | (with_reducible first | exact HB.out | apply below_alloc | apply pw_below_drewN | apply below_drew1) | exact HB.out)) hb); have n1_ := Aside0.mk (hbox); have n2_ := Aside0.mk ((by rw [hg]; exact (below_size (by repeat (first | (with_reducible first | exact HB.out | apply below_alloc | apply pw_below_drewN | apply below_drew1) | exact HB.out))) : w.heap.size ≤ gb729)); have n3_ := Aside0.mk ((by rw [hg]; exact (below_size (by repeat (first | (with_reducible first | exact HB.out | apply below_alloc | apply pw_below_drewN | apply below_drew1) | exact HB.out))) : w.heap.size ≤ gb729)); clear HB; have HB := n0_; have BK729 := n1_; have GW729 := n2_; have GE729 := n3_; clear n0_ n1_ n2_ n3_; clear hb hbox hg; have hcz13_0 : w12.cell? ⟨gb729, 0, none⟩ = some (.int .i64 a0_0) := (blk_cell BK729.out 0).trans rfl; have hcz13_1 : w12.cell? ⟨gb729, 1, none⟩ = some (.int .i64 a0_1) := (blk_cell BK729.out 1).trans rfl; have hcz13_2 : w12.cell? ⟨gb729, 2, none⟩ = some (.int .i64 a0_2) := (blk_cell BK729.out 2).trans rfl; have hfz13_0 := blk_frozen BK729.out 0; have hfz13_1 := blk_frozen BK729.out 1; have hfz13_2 := blk_frozen BK729.out 2))
      go_ret
      exact ⟨by first | rfl | (simp [errW_none, errW_some] <;> rfl) | (simp [*, errW_none, errW_some] <;> rfl), by repeat (first | (with_reducible first | exact HB.out | apply below_alloc | apply pw_below_drewN | apply below_drew1 | refine below_set ?_ GE729.out) | exact HB.out)⟩
  · rw [if_neg c2] at H
    have c2b0 : decide (0 ≤ a0_0) = false := decide_eq_false c2
    clear c2
    obtain rfl := Option.some.inj H
    go_enter Try.func79, Try.ntmps79
    go_wp2_with (first | ((with_reducible refine gate_dst (N := 1) rfl ?_); refine box_event ?hg (N := 1) ?hd (cs := #[.int .i64 a0_0, .int .i64 a0_1, .int .i64 a0_2]) (t := 100) ?hr ?_; (case hd => rfl); (case hg => rfl); (case hr => first | (go_simp; done) | (go_simp; rfl)); intro gb729 hg w14 hbox hb; have n0_ := Aside0.mk (below_step (by repeat (first | (with_reducible first | exact HB.out | apply below_alloc | apply pw_below_drewN | apply below_drew1) | exact HB.out)) hb); have n1_ := Aside0.mk (hbox); have n2_ := Aside0.mk ((by rw [hg]; exact (below_size (by repeat (first | (with_reducible first | exact HB.out | apply below_alloc | apply pw_below_drewN | apply below_drew1) | exact HB.out))) : w.heap.size ≤ gb729)); have n3_ := Aside0.mk ((by rw [hg]; exact (below_size (by repeat (first | (with_reducible first | exact HB.out | apply below_alloc | apply pw_below_drewN | apply below_drew1) | exact HB.out))) : w.heap.size ≤ gb729)); clear HB; have HB := n0_; have BK729 := n1_; have GW729 := n2_; have GE729 := n3_; clear n0_ n1_ n2_ n3_; clear hb hbox hg; have hcz15_0 : w14.cell? ⟨gb729, 0, none⟩ = some (.int .i64 a0_0) := (blk_cell BK729.out 0).trans rfl; have hcz15_1 : w14.cell? ⟨gb729, 1, none⟩ = some (.int .i64 a0_1) := (blk_cell BK729.out 1).trans rfl; have hcz15_2 : w14.cell? ⟨gb729, 2, none⟩ = some (.int .i64 a0_2) := (blk_cell BK729.out 2).trans rfl; have hfz15_0 := blk_frozen BK729.out 0; have hfz15_1 := blk_frozen BK729.out 1; have hfz15_2 := blk_frozen BK729.out 2))
    go_ret
    exact ⟨by first | rfl | (simp [errW_none, errW_some] <;> rfl) | (simp [*, errW_none, errW_some] <;> rfl), by repeat (first | (with_reducible first | exact HB.out | apply below_alloc | apply pw_below_drewN | apply below_drew1 | refine below_set ?_ GE729.out) | exact HB.out)⟩

end Go.Proofs.Ytlopmffdebhpfaa.G

/-! ## G131 -/
namespace Go.Proofs.Ytlopmffdebhpfaa.G
open Go.RowKit Go.Proofs.YtlopmffdebhpfaaW.PrintWords Go.Proofs.YtlopmffdebhpfaaW.PrintLast Go.Proofs.YtlopmffdebhpfaaW.PrintMore
attribute [local go_sem] max2_int min2_int max_two min_two max_three min_three max_four min_four
set_option linter.unusedVariables false
set_option linter.unusedSimpArgs false

/-! ### bytes_Equal: function 131 -/
def bytes_Equal.f (l0 : List Int) (l1 : List Int) : Option (Bool) := some ((strOfNums l0).toList == (strOfNums l1).toList)
set_option maxHeartbeats 8000000 in
set_option maxRecDepth 100000 in
theorem bytes_Equal.calls (A0 : Option Addr) (c0 : Nat) (l0 : List Int) (A1 : Option Addr) (c1 : Nat) (l1 : List Int) (r : Bool) (w : World) (hr0 : Kd.C (Kd.int .u8) w A0 l0.length l0) (hc0 : l0.length ≤ c0) (hr1 : Kd.C (Kd.int .u8) w A1 l1.length l1) (hc1 : l1.length ≤ c1) (h : bytes_Equal.f l0 l1 = some r) :
    Calls Try.prog 131 #[.slice A0 l0.length c0, .slice A1 l1.length c1] w fun e w' => e = .returned (.bool r) ∧ Drawn0 w w' := by
  have HR0 := Aside0.mk hr0
  have HC0 := Aside0.mk hc0
  clear hr0 hc0
  have HR1 := Aside0.mk hr1
  have HC1 := Aside0.mk hc1
  clear hr1 hc1
  have H : (some ((strOfNums l0).toList == (strOfNums l1).toList)) = some r := h
  clear h
  obtain rfl := Option.some.inj H
  have hcv3 := Kd.C_string (P := Try.prog) (A := A0) (c := c0) Try.underlying22 Try.underlying5 Try.underlying9 HR0.out
  have hcv4 := Kd.C_string (P := Try.prog) (A := A1) (c := c1) Try.underlying22 Try.underlying5 Try.underlying9 HR1.out
  go_enter Try.func131, Try.ntmps131
  go_wp2
  go_ret
  exact ⟨by first | rfl | (simp; done) | (simp [*]; done), by repeat (first | exact Drawn0.refl _ | apply Drawn0.step)⟩

end Go.Proofs.Ytlopmffdebhpfaa.G

/-! ## Parse -/
namespace Go.Proofs.Ytlopmffdebhpfaa.G
open Go.RowKit Go.Proofs.YtlopmffdebhpfaaW.PrintWords Go.Proofs.YtlopmffdebhpfaaW.PrintLast Go.Proofs.YtlopmffdebhpfaaW.PrintMore
set_option linter.unusedVariables false
set_option linter.unusedSimpArgs false

/-- The fault's value: none, no such page, no page of this id. -/
def perr : Nat → Value
  | 0 => .nilIface
  | 1 => .iface 108 (.string { data := #[110, 111, 32, 115, 117, 99, 104, 32, 112, 97, 103, 101] })
  | _ => .iface 108 (.string { data := #[110, 111, 32, 112, 97, 103, 101, 32, 111, 102, 32, 116, 104, 105, 115, 32, 105, 100] })
/-- The fault's number, the head's three numbers, the body. -/
def impl_parsePage.f (k : Nat) (a0 : Int) (l1 : List Int) : Option (Nat × Int × Int × Int × List Int) :=
  if l1.length = 256 then
    (impl_numberAt.f k ((l1.take 12).drop 10)).bind fun sz =>
    (impl_head_valid.f a0 (wrap64 (rd l1 8)) sz).bind fun hv =>
    if hv = true then
      (if 0 ≤ sz ∧ sz ≤ 240 then
        (impl_page_bytes.f k a0 (wrap64 (rd l1 8)) sz ((l1.take (16 + sz).toNat).drop 16)).bind fun pb =>
        (bytes_Equal.f pb l1).bind fun eq => if eq = true then some (0, a0, wrap64 (rd l1 8), sz, (l1.take (16 + sz).toNat).drop 16) else some (2, 0, 0, 0, [])
      else none)
    else some (2, 0, 0, 0, [])
  else some (1, 0, 0, 0, [])
theorem results_cell_slot {P : Program} {fn : Func} {p q : Tmp} {ty : TypeId} (h : fn.results = #[.cell p ty, .tmp q]) (tmps : Array Value) (w : World) (g : Nat) (t : TypeId) (cs : Array Value) (fr : Nat × Nat) (d : TypeDesc) (v : Value)
    (hp : tmps.getD p undef = .pointer (some ⟨g, 0, none⟩)) (hv : tmps.getD q undef = v) (hg : w.heap[g]? = some (.cells cs t fr))
    (hu : P.underlying ty = some d) (hd : (match d with | .struct _ | .array _ _ => true | _ => false) = true) (hi : (P.info? ty).map (·.size) = some cs.size) :
    (results fn tmps).run P w = .ok (.tuple #[.agg cs, v]) w := by
  have hp' : tmps[p]?.getD undef = .pointer (some ⟨g, 0, none⟩) := by simpa using hp
  have hv' : tmps[q]?.getD undef = v := by simpa using hv
  simp [results, h, hp', hv', asAddr, run_loadVar_row w g t ty cs fr d hg hu hd hi]

def impl_parsePage.T3 : Bool × List (List Nat × List Nat) := (true, [([], []), ([], []), ([1], [1]), ([2], [2]), ([3], [3]), ([], []), ([5], [5]), ([6], [6]), ([0, 4, 7], [0, 4, 7]), ([], []), ([9, 8, 7, 0, 1, 2, 3, 4, 5, 6, 7, 8, 9], [8, 9])])
def impl_parsePage.B3 : List Nat := [0, 0, 2, 6, 14, 0, 32, 96, 255, 0, 1023]
theorem impl_parsePage.tab3 : rtab .any (opsOf Try.f70 3) = impl_parsePage.T3 := by kernel_rfl
theorem impl_parsePage.bits3 : waitsOk impl_parsePage.T3.2 impl_parsePage.B3 = true := by kernel_rfl
def impl_parsePage.T6 : Bool × List (List Nat × List Nat) := (true, [([], []), ([], []), ([], []), ([2], [2]), ([3], [3]), ([1, 4], [1, 4]), ([0, 5], [0, 5]), ([], []), ([7, 6, 0, 1, 2, 3, 4, 5, 6, 7], [6, 7])])
def impl_parsePage.B6 : List Nat := [0, 0, 0, 4, 12, 30, 63, 0, 255]
theorem impl_parsePage.tab6 : rtab .any (opsOf Try.f70 6) = impl_parsePage.T6 := by kernel_rfl
theorem impl_parsePage.bits6 : waitsOk impl_parsePage.T6.2 impl_parsePage.B6 = true := by kernel_rfl
set_option maxHeartbeats 4000000 in
set_option maxRecDepth 100000 in
theorem impl_parsePage.calls (k : Nat) (a0 : Int) (A1 : Option Addr) (c1 : Nat) (l1 : List Int) (r : Nat × Int × Int × Int × List Int) (w : World) (ok : Nat → Prop) (hF : Kd.F (Kd.int .u8) w ok A1 l1.length l1) (hc1 : l1.length ≤ c1) (h : impl_parsePage.f k a0 l1 = some r) :
    Calls Try.prog 70 #[.int .i64 a0, .slice A1 l1.length c1] w fun e w' => ∃ A c, e = .returned (.tuple #[.agg #[.int .i64 r.2.1, .int .i64 r.2.2.1, .int .i64 r.2.2.2.1, .slice A r.2.2.2.2.length c], perr r.1]) ∧ r.2.2.2.2.length ≤ c ∧ Kd.F (Kd.int .u8) w' ok A r.2.2.2.2.length r.2.2.2.2 ∧ Below w.heap.size w w' := by
  have hu102 := Try.underlying102
  have hu100 := Try.underlying100
  unfold impl_parsePage.f at h
  by_cases hl : l1.length = 256
  case neg =>
    rw [if_neg hl] at h
    obtain rfl := Option.some.inj h
    clear h
    have c3b0 : ((l1.length : Int) == 256) = false := beq_eq_false_iff_ne.mpr (by omega)
    have c3b1 : ((l1.length : Int) != 256) = true := bne_iff_ne.mpr (by omega)
    go_enter Try.func70, Try.ntmps70
    go_wp2_with (first | ((with_reducible refine gate_dst (N := 4) rfl ?_); refine box_event ?hg (N := 4) ?hd (cs := #[.int .i64 0, .int .i64 0, .int .i64 0, .slice none 0 0]) (t := 102) ?hr ?_; (case hd => rfl); (case hg => rfl); (case hr => first | (go_simp; done) | (go_simp; rfl)); intro gr hgr w6 hbox hbel; have BK := Aside0.mk hbox; have HB := Aside0.mk hbel; have GB := Aside0.mk hgr; clear hbox hbel hgr) | ((with_reducible refine gate_ (.store 102 (.tmp 4) (.tmp 11)) rfl ?_); refine store_blk rfl rfl 102 (.tmp 4) (.tmp 11) rfl (off := 0) (u := .agg #[.int .i64 0, .int .i64 0, .int .i64 0, .slice none 0 0]) #[.int .i64 0, .int .i64 0, .int .i64 0, .slice none 0 0] rfl rfl BK.out [.int .i64 0, .int .i64 0, .int .i64 0, .slice none 0 0] rfl (by kernel_rfl) (Nat.le_of_ble_eq_true rfl) rfl rfl ?_; intro w7 hblk hgrw; have BK2 := Aside0.mk hblk; have HB2 := Aside0.mk (HB.out.grown hgrw HB.out.size (by intro q hq; cases hq; exact Nat.le_of_eq GB.out.symm)); clear hblk hgrw))
    refine bodyPost_ret (results_cell_slot rfl _ _ gr 102 #[.int .i64 0, .int .i64 0, .int .i64 0, .slice none 0 0] (0, 0) _ _ rfl rfl BK2.out Try.underlying102 rfl (by kernel_rfl)) rfl ?_
    exact ⟨none, 0, rfl, Nat.le_refl _, Kd.F_nil _ _ _, HB2.out⟩
  rw [if_pos hl] at h
  obtain ⟨sz, H1, h⟩ := Option.bind_eq_some_iff.mp h
  obtain ⟨hv, H2, h⟩ := Option.bind_eq_some_iff.mp h
  have N1 := Aside0.mk H1
  have N2 := Aside0.mk H2
  clear H1 H2
  have H := Aside0.mk h
  clear h
  have c3b0 : ((l1.length : Int) == 256) = true := beq_iff_eq.mpr (by omega)
  have c3b1 : ((l1.length : Int) != 256) = false := bne_eq_false_iff_eq.mpr (by omega)
  have q8a : decide (8 < (l1.length : Int)) = true := decide_eq_true (by omega)
  have q8b : decide (8 < l1.length) = true := decide_eq_true (by omega)
  have q8c : (8 < l1.length) = True := eq_true (by omega)
  have q8d : ((8 : Int) < (l1.length : Int)) = True := eq_true (by omega)
  obtain ⟨ad, rfl, hx8⟩ := Kd.at_int (Kd.F_now hF) 8 (by omega) (by omega)
  (try simp only [show (8 : Int).toNat = 8 from rfl, Nat.reduceMul, Nat.reduceEqDiff, Go.Addr.add, ↓reduceIte] at hx8)
  have HX8 := Aside0.mk hx8
  clear hx8
  obtain ⟨i0, hi0, _, hsz0, _⟩ := info_parts info5
  have HI := Aside0.mk hi0
  have HZ := Aside0.mk hsz0
  clear hi0 hsz0
  have HF := Aside0.mk hF
  have HC := Aside0.mk hc1
  have HL := Aside0.mk hl
  clear hF hc1 hl
  obtain ⟨A2, hcut2, hF2⟩ : ∃ A2, (∀ W : World, (Instr.slice 22 (.slice (some ad) l1.length c1) (some (.int .i64 10)) (some (.int .i64 12)) none).run Try.prog W = .ok (.slice A2 2 (c1 - 10)) W) ∧ Kd.F (Kd.int .u8) w ok A2 ((l1.take 12).drop 10).length ((l1.take 12).drop 10) := by
    refine ⟨_, cut_mid 22 5 .i64 .i64 Try.underlying22 HI.out 1 HZ.out (some ad) l1.length c1 10 12 (by decide) (by decide) (by have := HL.out; omega) HC.out, ?_⟩
    exact Kd.F_mid HF.out (by decide) (by have := HL.out; omega) HC.out
  have hln2 : ((l1.take 12).drop 10).length = 2 := by rw [List.length_drop, List.length_take, HL.out]; rfl
  have HF2 := Aside0.mk hF2
  have HLN := Aside0.mk hln2
  clear hF2 hln2
  go_enter Try.func70, Try.ntmps70
  go_wp2_with (first | ((with_reducible refine gate_dst (N := 4) rfl ?_); refine box_event ?hg (N := 4) ?hd (cs := #[.int .i64 0, .int .i64 0, .int .i64 0, .slice none 0 0]) (t := 102) ?hr ?_; (case hd => rfl); (case hg => rfl); (case hr => first | (go_simp; done) | (go_simp; rfl)); intro gr hgr w6 hbox hbel; have BK := Aside0.mk hbox; have HB := Aside0.mk hbel; have GB := Aside0.mk hgr; clear hbox hbel hgr))
  refine start_ (n := 11) (S := fun w' => w'.heap[gr]? = some (.cells #[.int .i64 0, .int .i64 0, .int .i64 0, .slice none 0 0] 102 (0, 0)) ∧ Below w.heap.size w w') (ds := []) #[false, false, false, false, false, false, false, false, false, false, false] (by kernel_rfl) rfl rfl (⟨blk_drew BK.out, below_drew1 HB.out⟩) (fun hHeld => ?_); refine with_tabW impl_parsePage.tab3 impl_parsePage.bits3 (fun HT_ HW_ => ?_)
  clear BK HB
  refine pure_ (i := 0) (N := some 13) (v := ?_) (a' := ?_) #[true, false, false, false, false, false, false, false, false, false, false] rfl rfl (any_of HT_.out (by kernel_rfl)) (fun _ _ _ h => h) (Or.inl ⟨by rfl, ?_⟩) ?_ ?_
  rotate_left
  · intro w'
    go_simp
    with_reducible rfl
  rotate_left
  · simp only [Act.put, List.setIfInBounds_toArray, List.set_cons_zero, List.set_cons_succ, i64_w, i32_w]
    rfl
  refine pure_ (i := 1) (N := some 14) (v := ?_) (a' := ?_) #[true, true, false, false, false, false, false, false, false, false, false] rfl rfl (any_of HT_.out (by kernel_rfl)) (fun _ _ _ h => h) (Or.inl ⟨by rfl, ?_⟩) ?_ ?_
  rotate_left
  · intro w'
    go_simp
    with_reducible rfl
  rotate_left
  · simp only [Act.put, List.setIfInBounds_toArray, List.set_cons_zero, List.set_cons_succ, i64_w, i32_w]
    rfl
  refine pure_ (i := 2) (N := some 15) (v := ?_) (a' := ?_) #[true, true, true, false, false, false, false, false, false, false, false] rfl rfl (any_of HT_.out (by kernel_rfl)) (fun _ _ _ h => h) (Or.inl ⟨by rfl, ?_⟩) ?_ ?_
  rotate_left
  · intro w'
    go_simp
    with_reducible rfl
  rotate_left
  · simp only [Act.put, List.setIfInBounds_toArray, List.set_cons_zero, List.set_cons_succ, i64_w, i32_w]
    rfl
  refine take_ (i := 3) (N := some 16) (v := ?_) (a' := ?_) #[true, true, true, true, false, false, false, false, false, false, false] rfl rfl (take_ofW HT_.out HW_.out (by kernel_rfl)) (fun _ _ _ h => h) (Or.inl ⟨by rfl, ?_⟩) hHeld ?_ ?_
  rotate_left
  · intro w' s0
    have hc8_ : w'.cell? ⟨ad.block, ad.off + 8, none⟩ = some (.int .u8 (rd l1 8)) := (s0.2.cell (World.block_lt_of_cell? w _ HX8.out)).trans HX8.out
    clear s0
    go_simp
    with_reducible rfl
  rotate_left
  · simp only [Act.put, List.setIfInBounds_toArray, List.set_cons_zero, List.set_cons_succ, i64_w, i32_w]
    rfl
  refine pure_ (i := 4) (N := some 17) (v := ?_) (a' := ?_) #[true, true, true, true, true, false, false, false, false, false, false] rfl rfl (any_of HT_.out (by kernel_rfl)) (fun _ _ _ h => h) (Or.inl ⟨by rfl, ?_⟩) ?_ ?_
  rotate_left
  · intro w'
    go_simp
    with_reducible rfl
  rotate_left
  · simp only [Act.put, List.setIfInBounds_toArray, List.set_cons_zero, List.set_cons_succ, i64_w, i32_w]
    rfl
  refine pure_ (i := 5) (N := some 18) (v := ?_) (a' := ?_) #[true, true, true, true, true, true, false, false, false, false, false] rfl rfl (any_of HT_.out (by kernel_rfl)) (fun _ _ _ h => h) (Or.inl ⟨by rfl, ?_⟩) ?_ ?_
  rotate_left
  · intro w'
    go_simp
    with_reducible rfl
  rotate_left
  · simp only [Act.put, List.setIfInBounds_toArray, List.set_cons_zero, List.set_cons_succ, i64_w, i32_w]
    rfl
  refine pure_ (i := 6) (N := some 19) (v := ?_) (a' := ?_) #[true, true, true, true, true, true, true, false, false, false, false] rfl rfl (any_of HT_.out (by kernel_rfl)) (fun _ _ _ h => h) (Or.inl ⟨by rfl, ?_⟩) ?_ ?_
  rotate_left
  · intro w'
    go_simp
    with_reducible rfl
  rotate_left
  · simp only [Act.put, List.setIfInBounds_toArray, List.set_cons_zero, List.set_cons_succ, i64_w, i32_w]
    rfl
  refine join_ 1 #[true, true, true, true, true, true, true, true, true, true, false] (fun g : Nat => [(20, .int .i64 sz), (21, .agg #[.int .i64 a0, .int .i64 (wrap64 (rd l1 8)), .int .i64 sz]), (6, .pointer (some ⟨g, 0, none⟩))]) (fun g w' => w'.heap[g]? = some (.cells #[.int .i64 0, .int .i64 0, .int .i64 0] 100 (0, 0)) ∧ (w'.heap[gr]? = some (.cells #[.int .i64 0, .int .i64 0, .int .i64 0, .slice none 0 0] 102 (0, 0)) ∧ Below w.heap.size w w') ∧ w.heap.size ≤ g ∧ g ≠ gr) ?_ ?_
  rotate_left
  · intro hK0
    refine two_ (i := 7) (j := 9) (Ni := some 20) (Nj := some 6) #[true, true, true, true, true, true, true, true, false, false, false] #[true, true, true, true, true, true, true, false, false, true, false] rfl rfl rfl rfl (two_of HT_.out (by kernel_rfl)) (by decide) (by decide) (fun K hK => ?_) (fun K hK => ?_)
    · refine goes_ Try.func130 (by kernel_rfl) rfl #[.slice A2 2 (c1 - 10)] (by rfl) rfl rfl (by first | rfl | (simp only [List.map_toArray, List.map_cons, List.map_nil]; first | done | rfl)) ?_
      have hcr := impl_numberAt.calls k A2 (c1 - 10) ((l1.take 12).drop 10) sz _ (Kd.C_below (Kd.F_now HF2.out) hHeld.2) (by have := HLN.out; have := HC.out; have := HL.out; omega) N1.out
      rw [HLN.out] at hcr
      refine hcr.mono ?_
      clear hcr
      rintro e w9 ⟨rfl, hd9⟩
      refine ⟨_, rfl, ?_⟩
      have S9 := Aside0.mk (And.intro (blk_below hHeld.1 hd9.below) (below_step hHeld.2 hd9.below))
      clear hHeld hd9
      refine hK.out _ _ (S9.out) (fun hHeld => ?_)
      clear hK K
      refine norm_ (a' := ?_) ?_ ?_
      rotate_left
      · show Act.put _ (some 20) _ = _
        simp only [Act.put, List.setIfInBounds_toArray, List.set_cons_zero, List.set_cons_succ, i64_w, i32_w]
        rfl
      refine pure_ (i := 8) (N := some 21) (v := ?_) (a' := ?_) #[true, true, true, true, true, true, true, true, true, false, false] rfl rfl (any_of HT_.out (by kernel_rfl)) (fun _ _ _ h => h) (Or.inl ⟨by rfl, ?_⟩) ?_ ?_
      rotate_left
      · intro w'
        go_simp
        with_reducible rfl
      rotate_left
      · simp only [Act.put, List.setIfInBounds_toArray, List.set_cons_zero, List.set_cons_succ, i64_w, i32_w]
        rfl
      refine one_ (i := 9) (N := some 6) #[true, true, true, true, true, true, true, true, true, true, false] rfl rfl (one_of HT_.out (by kernel_rfl)) (by decide) (fun K hK => ?_)
      refine box_step (by rfl) (N := 6) rfl (cs := #[.int .i64 0, .int .i64 0, .int .i64 0]) (t := 100) ?hr ?_
      case hr => first | (go_simp; done) | (go_simp; rfl)
      intro gh hgh w10 hbox hbel
      have S10 := Aside0.mk (And.intro hbox (And.intro (And.intro (blk_below S9.out.1 hbel) (below_step S9.out.2 hbel)) (And.intro (show w.heap.size ≤ gh by rw [hgh]; exact S9.out.2.size) (show gh ≠ gr by have := blk_lt S9.out.1; omega))))
      clear hHeld hbox hbel hgh S9
      refine hK.out _ _ S10.out.2.1 (fun hHeld => ?_)
      clear hK K
      exact hK0 gh _ S10.out
    · refine box_step (by rfl) (N := 6) rfl (cs := #[.int .i64 0, .int .i64 0, .int .i64 0]) (t := 100) ?hr ?_
      case hr => first | (go_simp; done) | (go_simp; rfl)
      intro gh hgh w10 hbox hbel
      have S10 := Aside0.mk (And.intro hbox (And.intro (And.intro (blk_below hHeld.1 hbel) (below_step hHeld.2 hbel)) (And.intro (show w.heap.size ≤ gh by rw [hgh]; exact hHeld.2.size) (show gh ≠ gr by have := blk_lt hHeld.1; omega))))
      clear hHeld hbox hbel hgh
      refine hK.out _ _ (S10.out.2.1) (fun hHeld => ?_)
      clear hK K
      refine norm_ (a' := ?_) ?_ ?_
      rotate_left
      · show Act.put _ (some 6) _ = _
        simp only [Act.put, List.setIfInBounds_toArray, List.set_cons_zero, List.set_cons_succ, i64_w, i32_w]
        rfl
      refine one_ (i := 7) (N := some 20) #[true, true, true, true, true, true, true, true, false, true, false] rfl rfl (one_of HT_.out (by kernel_rfl)) (by decide) (fun K hK => ?_)
      refine goes_ Try.func130 (by kernel_rfl) rfl #[.slice A2 2 (c1 - 10)] (by rfl) rfl rfl (by first | rfl | (simp only [List.map_toArray, List.map_cons, List.map_nil]; first | done | rfl)) ?_
      have hcr := impl_numberAt.calls k A2 (c1 - 10) ((l1.take 12).drop 10) sz _ (Kd.C_below (Kd.F_now HF2.out) hHeld.2) (by have := HLN.out; have := HC.out; have := HL.out; omega) N1.out
      rw [HLN.out] at hcr
      refine hcr.mono ?_
      clear hcr
      rintro e w9 ⟨rfl, hd9⟩
      refine ⟨_, rfl, ?_⟩
      have S9 := Aside0.mk (And.intro (blk_below S10.out.1 hd9.below) (And.intro (And.intro (blk_below hHeld.1 hd9.below) (below_step hHeld.2 hd9.below)) S10.out.2.2))
      clear hHeld hd9 S10
      refine hK.out _ _ (S9.out.2.1) (fun hHeld => ?_)
      clear hK K
      refine norm_ (a' := ?_) ?_ ?_
      rotate_left
      · show Act.put _ (some 20) _ = _
        simp only [Act.put, List.setIfInBounds_toArray, List.set_cons_zero, List.set_cons_succ, i64_w, i32_w]
        rfl
      refine pure_ (i := 8) (N := some 21) (v := ?_) (a' := ?_) #[true, true, true, true, true, true, true, true, true, true, false] rfl rfl (any_of HT_.out (by kernel_rfl)) (fun _ _ _ h => h) (Or.inl ⟨by rfl, ?_⟩) ?_ ?_
      rotate_left
      · intro w'
        go_simp
        with_reducible rfl
      rotate_left
      · simp only [Act.put, List.setIfInBounds_toArray, List.set_cons_zero, List.set_cons_succ, i64_w, i32_w]
        rfl
      exact hK0 gh _ S9.out
  rintro gh w11 ⟨hb11, ⟨hr11, hB11⟩, hge11, hne11⟩
  refine norm_ (a' := ?_) ?_ ?_
  rotate_left
  · skip
    simp only [putAll, Act.put, List.setIfInBounds_toArray, List.set_cons_zero, List.set_cons_succ, i64_w, i32_w]
    rfl
  have hHeld := And.intro hr11 hB11
  refine one_ (i := 10) (N := none) #[true, true, true, true, true, true, true, true, true, true, true] rfl rfl (one_of HT_.out (by kernel_rfl)) (by decide) (fun K hK => ?_)
  refine store_blk_step (by rfl) rfl 100 (.tmp 6) (.tmp 21) rfl (off := 0) (u := .agg #[.int .i64 a0, .int .i64 (wrap64 (rd l1 8)), .int .i64 sz]) #[.int .i64 a0, .int .i64 (wrap64 (rd l1 8)), .int .i64 sz] rfl rfl hb11 [.int .i64 a0, .int .i64 (wrap64 (rd l1 8)), .int .i64 sz] rfl (by kernel_rfl) (Nat.le_of_ble_eq_true rfl) rfl rfl ?_
  intro w12 hblk hgrw
  have BH := Aside0.mk hblk
  have HB := Aside0.mk (hB11.grown hgrw hB11.size (by intro q hq; cases hq; exact hge11))
  have BK := Aside0.mk (blk_grown hr11 hgrw (by intro e; exact hne11 (Option.some.inj e).symm))
  have HNE : Aside0 (gh ≠ gr) := ⟨hne11⟩
  have HGE : Aside0 (w.heap.size ≤ gh) := ⟨hge11⟩
  clear hblk hgrw hb11 hr11 hB11 hge11 hne11 hHeld
  refine hK.out _ _ (⟨BK.out, HB.out⟩) (fun hHeld => ?_)
  clear hK K
  refine done_ (done_of HT_.out (by kernel_rfl)) ?_
  try clear hHeld
  have hcz0 : w12.cell? ⟨gh, 0, none⟩ = some (.int .i64 a0) := (blk_cell BH.out 0).trans rfl
  have hcz1 : w12.cell? ⟨gh, 1, none⟩ = some (.int .i64 (wrap64 (rd l1 8))) := (blk_cell BH.out 1).trans rfl
  have hcz2 : w12.cell? ⟨gh, 2, none⟩ = some (.int .i64 sz) := (blk_cell BH.out 2).trans rfl
  go_wp2_with fail
  refine (impl_head_valid.calls a0 _ sz hv _ N2.out).mono ?_
  rintro e w13 ⟨rfl, hb13⟩
  have BH2 := Aside0.mk (blk_below BH.out hb13)
  have HB2 := Aside0.mk (below_step HB.out hb13)
  have BK2 := Aside0.mk (blk_below BK.out hb13)
  clear BH HB BK hb13 hcz0 hcz1 hcz2
  have HGR : Aside0 (w.heap.size ≤ gr) := ⟨Nat.le_of_eq GB.out.symm⟩
  cases hv with
  | false =>
    have h := H.out
    rw [if_neg (by decide)] at h
    obtain rfl := Option.some.inj h
    clear h H
    go_wp2_with (first | ((with_reducible refine gate_ (.store 102 (.tmp 4) (.tmp 25)) rfl ?_); refine store_blk rfl rfl 102 (.tmp 4) (.tmp 25) rfl (off := 0) (u := .agg #[.int .i64 0, .int .i64 0, .int .i64 0, .slice none 0 0]) #[.int .i64 0, .int .i64 0, .int .i64 0, .slice none 0 0] rfl rfl BK2.out [.int .i64 0, .int .i64 0, .int .i64 0, .slice none 0 0] rfl (by kernel_rfl) (Nat.le_of_ble_eq_true rfl) rfl rfl ?_; intro w14 hblk hgrw; have BK3 := Aside0.mk hblk; have HB3 := Aside0.mk (HB2.out.grown hgrw HB2.out.size (by intro q hq; cases hq; exact HGR.out)); clear hblk hgrw))
    refine bodyPost_ret (results_cell_slot rfl _ _ gr 102 #[.int .i64 0, .int .i64 0, .int .i64 0, .slice none 0 0] (0, 0) _ _ rfl rfl BK3.out Try.underlying102 rfl (by kernel_rfl)) rfl ?_
    first | exact ⟨none, 0, rfl, Nat.le_refl _, Kd.F_nil _ _ _, HB3.out⟩ | exact ⟨none, ⟨0, rfl⟩, Kd.F_nil _ _ _, HB3.out⟩
  | true =>
    have h := H.out
    rw [if_pos rfl] at h
    clear H
    split at h
    case isFalse => cases h
    rename_i hsz
    obtain ⟨pb, H1, h⟩ := Option.bind_eq_some_iff.mp h
    obtain ⟨eq, H2, h⟩ := Option.bind_eq_some_iff.mp h
    have N3 := Aside0.mk H1
    have N4 := Aside0.mk H2
    have H := Aside0.mk h
    clear H1 H2 h
    obtain ⟨A3, hcut3, hF3⟩ : ∃ A3, (∀ W : World, (Instr.slice 22 (.slice (some ad) l1.length c1) (some (.int .i64 16)) (some (.int .i64 (16 + sz))) none).run Try.prog W = .ok (.slice A3 ((l1.take (16 + sz).toNat).drop 16).length (c1 - 16)) W) ∧ Kd.F (Kd.int .u8) w ok A3 ((l1.take (16 + sz).toNat).drop 16).length ((l1.take (16 + sz).toNat).drop 16) := by
      have hln : ((l1.take (16 + sz).toNat).drop 16).length = (16 + sz).toNat - (16 : Int).toNat := by rw [List.length_drop, List.length_take, HL.out]; omega
      refine ⟨_, fun W => (cut_mid 22 5 .i64 .i64 Try.underlying22 HI.out 1 HZ.out (some ad) l1.length c1 16 (16 + sz) (by decide) (by omega) (by have := HL.out; omega) HC.out W).trans (by rw [hln]; rfl), ?_⟩
      exact Kd.F_mid HF.out (by omega) (by have := HL.out; omega) HC.out
    have hwr : wrap64 (16 + sz) = 16 + sz := by unfold wrap64; omega
    have hbl : Aside0 (((l1.take (16 + sz).toNat).drop 16).length ≤ c1 - 16) := ⟨by rw [List.length_drop, List.length_take, HL.out]; have := HL.out; have := HC.out; omega⟩
    have HF3 := Aside0.mk hF3
    clear hF3
    generalize hbody : (l1.take (16 + sz).toNat).drop 16 = body at N3 H hcut3 hbl HF3
    clear hbody
    have hcz0 : w13.cell? ⟨gh, 0, none⟩ = some (.int .i64 a0) := (blk_cell BH2.out 0).trans rfl
    have hcz1 : w13.cell? ⟨gh, 1, none⟩ = some (.int .i64 (wrap64 (rd l1 8))) := (blk_cell BH2.out 1).trans rfl
    have hcz2 : w13.cell? ⟨gh, 2, none⟩ = some (.int .i64 sz) := (blk_cell BH2.out 2).trans rfl
    go_wp2_with fail
    refine start_ (n := 9) (S := fun w' => w'.heap[gh]? = some (.cells #[.int .i64 a0, .int .i64 (wrap64 (rd l1 8)), .int .i64 sz] 100 (0, 0)) ∧ w'.heap[gr]? = some (.cells #[.int .i64 0, .int .i64 0, .int .i64 0, .slice none 0 0] 102 (0, 0)) ∧ Below w.heap.size w w') (ds := []) #[false, false, false, false, false, false, false, false, false] (by kernel_rfl) rfl rfl (⟨blk_drew BH2.out, blk_drew BK2.out, below_drew1 HB2.out⟩) (fun hHeld => ?_); refine with_tabW impl_parsePage.tab6 impl_parsePage.bits6 (fun HT_ HW_ => ?_)
    clear BH2 BK2 HB2 hcz0 hcz1 hcz2
    refine take_ (i := 0) (N := some 27) (v := ?_) (a' := ?_) #[true, false, false, false, false, false, false, false, false] rfl rfl (take_ofW HT_.out HW_.out (by kernel_rfl)) (fun _ _ _ h => h) (Or.inl ⟨by rfl, ?_⟩) hHeld ?_ ?_
    rotate_left
    · intro w' s0
      have hcz0 : w'.cell? ⟨gh, 0, none⟩ = some (.int .i64 a0) := (blk_cell s0.1 0).trans rfl
      have hcz1 : w'.cell? ⟨gh, 1, none⟩ = some (.int .i64 (wrap64 (rd l1 8))) := (blk_cell s0.1 1).trans rfl
      have hcz2 : w'.cell? ⟨gh, 2, none⟩ = some (.int .i64 sz) := (blk_cell s0.1 2).trans rfl
      clear s0
      go_simp
      with_reducible rfl
    rotate_left
    · simp only [Act.put, List.setIfInBounds_toArray, List.set_cons_zero, List.set_cons_succ, i64_w, i32_w]
      rfl
    refine pure_ (i := 1) (N := some 28) (v := ?_) (a' := ?_) #[true, true, false, false, false, false, false, false, false] rfl rfl (any_of HT_.out (by kernel_rfl)) (fun _ _ _ h => h) (Or.inl ⟨by rfl, ?_⟩) ?_ ?_
    rotate_left
    · intro w'
      go_simp
      with_reducible rfl
    rotate_left
    · simp only [Act.put, List.setIfInBounds_toArray, List.set_cons_zero, List.set_cons_succ, i64_w, i32_w]
      rfl
    refine pure_ (i := 2) (N := some 29) (v := ?_) (a' := ?_) #[true, true, true, false, false, false, false, false, false] rfl rfl (any_of HT_.out (by kernel_rfl)) (fun _ _ _ h => h) (Or.inl ⟨by rfl, ?_⟩) ?_ ?_
    rotate_left
    · intro w'
      go_simp
      with_reducible rfl
    rotate_left
    · simp only [Act.put, List.setIfInBounds_toArray, List.set_cons_zero, List.set_cons_succ, i64_w, i32_w]
      rfl
    refine take_ (i := 3) (N := some 30) (v := ?_) (a' := ?_) #[true, true, true, true, false, false, false, false, false] rfl rfl (take_ofW HT_.out HW_.out (by kernel_rfl)) (fun _ _ _ h => h) (Or.inl ⟨by rfl, ?_⟩) hHeld ?_ ?_
    rotate_left
    · intro w' s0
      have hcz0 : w'.cell? ⟨gh, 0, none⟩ = some (.int .i64 a0) := (blk_cell s0.1 0).trans rfl
      have hcz1 : w'.cell? ⟨gh, 1, none⟩ = some (.int .i64 (wrap64 (rd l1 8))) := (blk_cell s0.1 1).trans rfl
      have hcz2 : w'.cell? ⟨gh, 2, none⟩ = some (.int .i64 sz) := (blk_cell s0.1 2).trans rfl
      clear s0
      go_simp
      with_reducible rfl
    rotate_left
    · simp only [Act.put, List.setIfInBounds_toArray, List.set_cons_zero, List.set_cons_succ, i64_w, i32_w]
      rfl
    refine pure_ (i := 4) (N := some 31) (v := ?_) (a' := ?_) #[true, true, true, true, true, false, false, false, false] rfl rfl (any_of HT_.out (by kernel_rfl)) (fun _ _ _ h => h) (Or.inl ⟨by rfl, ?_⟩) ?_ ?_
    rotate_left
    · intro w'
      go_simp
      simp only [i64_w, hwr]
      with_reducible rfl
    rotate_left
    · simp only [Act.put, List.setIfInBounds_toArray, List.set_cons_zero, List.set_cons_succ, i64_w, i32_w]
      rfl
    refine pure_ (i := 5) (N := some 32) (v := ?_) (a' := ?_) #[true, true, true, true, true, true, false, false, false] rfl rfl (any_of HT_.out (by kernel_rfl)) (fun _ _ _ h => h) (Or.inl ⟨by rfl, ?_⟩) ?_ ?_
    rotate_left
    · intro w'
      go_simp
      with_reducible rfl
    rotate_left
    · simp only [Act.put, List.setIfInBounds_toArray, List.set_cons_zero, List.set_cons_succ, i64_w, i32_w]
      rfl
    refine pure_ (i := 6) (N := some 33) (v := ?_) (a' := ?_) #[true, true, true, true, true, true, true, false, false] rfl rfl (any_of HT_.out (by kernel_rfl)) (fun _ _ _ h => h) (Or.inl ⟨by rfl, ?_⟩) ?_ ?_
    rotate_left
    · intro w'
      go_simp
      with_reducible rfl
    rotate_left
    · simp only [Act.put, List.setIfInBounds_toArray, List.set_cons_zero, List.set_cons_succ, i64_w, i32_w]
      rfl
    refine one_ (i := 7) (N := some 7) #[true, true, true, true, true, true, true, true, false] rfl rfl (one_of HT_.out (by kernel_rfl)) (by decide) (fun K hK => ?_)
    refine box_step (by rfl) (N := 7) rfl (cs := #[.int .i64 0, .int .i64 0, .int .i64 0, .slice none 0 0]) (t := 102) ?hr ?_
    case hr => first | (go_simp; done) | (go_simp; rfl)
    intro gp hgp w14 hbox hbel
    have BP0 := Aside0.mk hbox
    have S14 := Aside0.mk (And.intro (blk_below hHeld.1 hbel) (And.intro (blk_below hHeld.2.1 hbel) (below_step hHeld.2.2 hbel)))
    have HGP : Aside0 (w.heap.size ≤ gp) := ⟨by rw [hgp]; exact hHeld.2.2.size⟩
    have HNP : Aside0 (gp ≠ gr) := ⟨by have := blk_lt hHeld.2.1; omega⟩
    have HNH : Aside0 (gp ≠ gh) := ⟨by have := blk_lt hHeld.1; omega⟩
    clear hbox hbel hHeld hgp
    refine hK.out _ _ (S14.out) (fun hHeld => ?_)
    clear hK K
    refine norm_ (a' := ?_) ?_ ?_
    rotate_left
    · show Act.put _ (some 7) _ = _
      simp only [Act.put, List.setIfInBounds_toArray, List.set_cons_zero, List.set_cons_succ, i64_w, i32_w]
      rfl
    refine one_ (i := 8) (N := none) #[true, true, true, true, true, true, true, true, true] rfl rfl (one_of HT_.out (by kernel_rfl)) (by decide) (fun K hK => ?_)
    refine store_blk_step (by rfl) rfl 102 (.tmp 7) (.tmp 33) rfl (off := 0) (u := .agg #[.int .i64 a0, .int .i64 (wrap64 (rd l1 8)), .int .i64 sz, .slice A3 body.length (c1 - 16)]) #[.int .i64 a0, .int .i64 (wrap64 (rd l1 8)), .int .i64 sz, .slice A3 body.length (c1 - 16)] rfl rfl BP0.out [.int .i64 a0, .int .i64 (wrap64 (rd l1 8)), .int .i64 sz, .slice A3 body.length (c1 - 16)] rfl (by kernel_rfl) (Nat.le_of_ble_eq_true rfl) rfl rfl ?_
    intro w15 hblk hgrw
    have BP := Aside0.mk hblk
    have HB3 := Aside0.mk (S14.out.2.2.grown hgrw S14.out.2.2.size (by intro q hq; cases hq; exact HGP.out))
    have BK3 := Aside0.mk (blk_grown S14.out.2.1 hgrw (by intro e; exact HNP.out (Option.some.inj e).symm))
    have BH3 := Aside0.mk (blk_grown S14.out.1 hgrw (by intro e; exact HNH.out (Option.some.inj e).symm))
    clear hblk hgrw BP0 S14 hHeld
    refine hK.out _ _ (⟨BH3.out, BK3.out, HB3.out⟩) (fun hHeld => ?_)
    clear hK K
    refine done_ (done_of HT_.out (by kernel_rfl)) ?_
    try clear hHeld
    have hcw0 : w15.cell? ⟨gp, 0, none⟩ = some (.int .i64 a0) := (blk_cell BP.out 0).trans rfl
    have hcw1 : w15.cell? ⟨gp, 1, none⟩ = some (.int .i64 (wrap64 (rd l1 8))) := (blk_cell BP.out 1).trans rfl
    have hcw2 : w15.cell? ⟨gp, 2, none⟩ = some (.int .i64 sz) := (blk_cell BP.out 2).trans rfl
    have hcw3 : w15.cell? ⟨gp, 3, none⟩ = some (.slice A3 body.length (c1 - 16)) := (blk_cell BP.out 3).trans rfl
    go_wp2_with fail
    refine (impl_page_bytes.calls k a0 _ sz A3 (c1 - 16) body pb _ (Kd.C_below (Kd.F_now HF3.out) HB3.out) hbl.out N3.out).mono ?_
    rintro e w16 ⟨v16, rfl, ho16, hb16⟩
    have HO16 := Aside0.mk ho16
    have BP4 := Aside0.mk (blk_below BP.out hb16)
    have BK4 := Aside0.mk (blk_below BK3.out hb16)
    have HB4 := Aside0.mk (below_step HB3.out hb16)
    clear ho16 hb16 BP BK3 BH3 HB3 hcw0 hcw1 hcw2 hcw3
    obtain ⟨A16, c16, ev16⟩ := Kd.R_slice HO16.out
    subst ev16
    go_wp2_with fail
    refine (bytes_Equal.calls A16 c16 pb (some ad) c1 l1 eq w16 (Kd.R_reads' HO16.out).2.2 (Kd.R_reads' HO16.out).2.1 (Kd.C_below (Kd.F_now HF.out) HB4.out) HC.out N4.out).mono ?_
    rintro e w17 ⟨rfl, hd17⟩
    have BP5 := Aside0.mk (blk_below BP4.out hd17.below)
    have BK5 := Aside0.mk (blk_below BK4.out hd17.below)
    have HB5 := Aside0.mk (below_step HB4.out hd17.below)
    clear hd17 HO16 BP4 BK4 HB4
    cases eq with
    | false =>
      have h := H.out
      rw [if_neg (by decide)] at h
      obtain rfl := Option.some.inj h
      clear h H
      go_wp2_with (first | ((with_reducible refine gate_ (.store 102 (.tmp 4) (.tmp 39)) rfl ?_); refine store_blk rfl rfl 102 (.tmp 4) (.tmp 39) rfl (off := 0) (u := .agg #[.int .i64 0, .int .i64 0, .int .i64 0, .slice none 0 0]) #[.int .i64 0, .int .i64 0, .int .i64 0, .slice none 0 0] rfl rfl BK5.out [.int .i64 0, .int .i64 0, .int .i64 0, .slice none 0 0] rfl (by kernel_rfl) (Nat.le_of_ble_eq_true rfl) rfl rfl ?_; intro w18 hblk hgrw; have BK6 := Aside0.mk hblk; have HG6 := Aside0.mk hgrw; have HB6 := Aside0.mk (HB5.out.grown hgrw HB5.out.size (by intro q hq; cases hq; exact HGR.out)); clear hblk hgrw))
      refine bodyPost_ret (results_cell_slot rfl _ _ gr 102 #[.int .i64 0, .int .i64 0, .int .i64 0, .slice none 0 0] (0, 0) _ _ rfl rfl BK6.out Try.underlying102 rfl (by kernel_rfl)) rfl ?_
      first | exact ⟨none, 0, rfl, Nat.le_refl _, Kd.F_nil _ _ _, HB6.out⟩ | exact ⟨none, ⟨0, rfl⟩, Kd.F_nil _ _ _, HB6.out⟩
    | true =>
      have h := H.out
      rw [if_pos rfl] at h
      obtain rfl := Option.some.inj h
      clear h H
      have hcw0 : w17.cell? ⟨gp, 0, none⟩ = some (.int .i64 a0) := (blk_cell BP5.out 0).trans rfl
      have hcw1 : w17.cell? ⟨gp, 1, none⟩ = some (.int .i64 (wrap64 (rd l1 8))) := (blk_cell BP5.out 1).trans rfl
      have hcw2 : w17.cell? ⟨gp, 2, none⟩ = some (.int .i64 sz) := (blk_cell BP5.out 2).trans rfl
      have hcw3 : w17.cell? ⟨gp, 3, none⟩ = some (.slice A3 body.length (c1 - 16)) := (blk_cell BP5.out 3).trans rfl
      go_wp2_with (first | ((with_reducible refine gate_ (.store 102 (.tmp 4) (.tmp 41)) rfl ?_); refine store_blk rfl rfl 102 (.tmp 4) (.tmp 41) rfl (off := 0) (u := .agg #[.int .i64 a0, .int .i64 (wrap64 (rd l1 8)), .int .i64 sz, .slice A3 body.length (c1 - 16)]) #[.int .i64 a0, .int .i64 (wrap64 (rd l1 8)), .int .i64 sz, .slice A3 body.length (c1 - 16)] rfl rfl BK5.out [.int .i64 a0, .int .i64 (wrap64 (rd l1 8)), .int .i64 sz, .slice A3 body.length (c1 - 16)] rfl (by kernel_rfl) (Nat.le_of_ble_eq_true rfl) rfl rfl ?_; intro w18 hblk hgrw; have BK6 := Aside0.mk hblk; have HG6 := Aside0.mk hgrw; have HB6 := Aside0.mk (HB5.out.grown hgrw HB5.out.size (by intro q hq; cases hq; exact HGR.out)); clear hblk hgrw))
      refine bodyPost_ret (results_cell_slot rfl _ _ gr 102 #[.int .i64 a0, .int .i64 (wrap64 (rd l1 8)), .int .i64 sz, .slice A3 body.length (c1 - 16)] (0, 0) _ _ rfl rfl BK6.out Try.underlying102 rfl (by kernel_rfl)) rfl ?_
      exact ⟨A3, c1 - 16, rfl, hbl.out, Kd.F_mono (Kd.F_grown (ok := fun k => ok k ∧ k < w.heap.size) (Kd.F_below (Kd.F_bound HF3.out) HB5.out) HG6.out (fun q hq e => by cases e; exact absurd hq.2 (by have := GB.out; omega))) (fun _ hk => hk.1), HB6.out⟩
end Go.Proofs.Ytlopmffdebhpfaa.G

/-! ## Err -/
namespace Go.Proofs.Ytlopmffdebhpfaa.G
open Go.RowKit Go.Extern.Stop Go.Stop Go.Extern
end Go.Proofs.Ytlopmffdebhpfaa.G

/-! ## Page -/
namespace Go.Proofs.Ytlopmffdebhpfaa.G
open Go.RowKit Go.Proofs.YtlopmffdebhpfaaW.PrintWords Go.Proofs.YtlopmffdebhpfaaW.PrintLast Go.Proofs.YtlopmffdebhpfaaW.PrintMore
set_option linter.unusedVariables false
set_option linter.unusedSimpArgs false

end Go.Proofs.Ytlopmffdebhpfaa.G

/-! ## Enc -/
namespace Go.Proofs.Ytlopmffdebhpfaa.Pure
open Go.RowKit Go.Proofs.Ytlopmffdebhpfaa.G Go.Proofs.YtlopmffdebhpfaaW.PrintWords Go.Proofs.YtlopmffdebhpfaaW.PrintLast Go.Proofs.YtlopmffdebhpfaaW.PrintMore

/-- A number in n bytes. -/
def leN : Nat → Nat → List Int
  | 0, _ => []
  | n + 1, v => ((v % 256 : Nat) : Int) :: leN n (v / 256)
theorem leN_length : ∀ (n v : Nat), (leN n v).length = n
  | 0, _ => rfl
  | n + 1, v => by simp [leN, leN_length n]
theorem leN_by : ∀ (n v : Nat), By (leN n v)
  | 0, _ => By.nil
  | n + 1, v => By.cons ⟨by omega, by omega⟩ (leN_by n _)

theorem spec_num_l0 (k n : Nat) (hn : n < 1000) : ∀ (m v i : Nat) (acc : List Int), i + m = n → v < 2 ^ 63 → acc.length + m < 1000 → spec_l2Num.l0 (k + m + 1) (v : Int) (n : Int) acc (i : Int) = some (acc ++ leN m v)
  | 0, v, i, acc, hi, hv, hl => by
    unfold spec_l2Num.l0
    rw [if_neg (by omega)]
    simp [leN]
  | m + 1, v, i, acc, hi, hv, hl => by
    unfold spec_l2Num.l0
    rw [if_pos (by omega), if_pos (by omega), w64 (n := (i : Int) + 1) (by omega) (by omega)]
    rw [show Int.tdiv (v : Int) 256 = ((v / 256 : Nat) : Int) from rfl, w64 (by omega) (by omega), show Int.tmod (v : Int) 256 = ((v % 256 : Nat) : Int) from rfl]
    rw [show ((v % 256 : Nat) : Int) % 256 = ((v % 256 : Nat) : Int) by omega]
    have ih := spec_num_l0 k n hn m (v / 256) (i + 1) (acc ++ [((v % 256 : Nat) : Int)]) (by omega) (by omega) (by simp; omega)
    rw [show (((i + 1 : Nat)) : Int) = (i : Int) + 1 by omega] at ih
    rw [show k + (m + 1) = k + m + 1 by omega, ih]
    simp [leN]
theorem spec_num {v n : Nat} (hv : v < 2 ^ 63) (hn : n < 999) : Cv (fun k => spec_l2Num.f k (v : Int) (n : Int)) (leN n v) :=
  Cv.from (m := n + 1) (fun k => by
    have h := spec_num_l0 k n (by omega) n v 0 [] (by omega) hv (by simp; omega)
    unfold spec_l2Num.f
    exact h)

theorem impl_low_l0 (k v n : Nat) (hn : n ≤ 8) (hv : v < 2 ^ 63) : ∀ (m i : Nat) (pre : List Int), i + m = n → pre.length = i → impl_low.l0 (k + m + 1) (v : Int) (pre ++ List.replicate m 0) (n : Int) (i : Int) = some (pre ++ leN m (v / 2 ^ (8 * i)))
  | 0, i, pre, hi, hp => by
    unfold impl_low.l0
    rw [if_neg (by omega)]
    simp [leN]
  | m + 1, i, pre, hi, hp => by
    unfold impl_low.l0
    have hlen : (pre ++ List.replicate (m + 1) (0 : Int)).length = n := by simp; omega
    rw [w64 (n := 8 * (i : Int)) (by omega) (by omega)]
    rw [if_pos (by omega), if_pos (by omega), if_pos (by omega), if_pos (by omega), w64 (n := (i : Int) + 1) (by omega) (by omega)]
    have e1 : shr .i64 (v : Int) (8 * (i : Int)) % 256 = ((v / 2 ^ (8 * i) % 256 : Nat) : Int) := by
      unfold shr
      rw [show (8 * (i : Int)).toNat = 8 * i by omega, show min (8 * i) IntKind.i64.bits = 8 * i from Nat.min_eq_left (by show 8 * i ≤ 64; omega)]
      rw [show ((2 : Int) ^ (8 * i)) = ((2 ^ (8 * i) : Nat) : Int) by push_cast; rfl]
      rfl
    rw [e1]
    have e2 : (pre ++ List.replicate (m + 1) (0 : Int)).set ((i : Int)).toNat ((v / 2 ^ (8 * i) % 256 : Nat) : Int) = (pre ++ [((v / 2 ^ (8 * i) % 256 : Nat) : Int)]) ++ List.replicate m 0 := by
      rw [Int.toNat_natCast, List.set_append_right _ _ (by omega), show i - pre.length = 0 by omega, List.replicate_succ, List.set_cons_zero, List.append_assoc, List.singleton_append]
    rw [e2]
    have ih := impl_low_l0 k v n hn hv m (i + 1) (pre ++ [((v / 2 ^ (8 * i) % 256 : Nat) : Int)]) (by omega) (by simp; omega)
    rw [show (((i + 1 : Nat)) : Int) = (i : Int) + 1 by omega] at ih
    rw [show k + (m + 1) = k + m + 1 by omega, ih]
    simp only [leN, List.append_assoc, List.singleton_append]
    rw [show 8 * (i + 1) = 8 * i + 8 by omega, Nat.pow_add, ← Nat.div_div_eq_div_mul]
theorem impl_num {v n : Nat} (hv : v < 2 ^ 63) (hn : n ≤ 8) : Cv (fun k => impl_low.f k (v : Int) (n : Int)) (leN n v) :=
  Cv.from (m := n + 1) (fun k => by
    have h := impl_low_l0 k v n hn hv n 0 [] (by omega) rfl
    unfold impl_low.f
    rw [if_pos (by omega), if_pos (by omega), Option.bind_some, Int.toNat_natCast, List.length_replicate, ← Nat.add_assoc]
    simpa using h)

/-- The page's bytes behind the checksum; the page. -/
def restOf (id kind : Nat) (body : List Int) : List Int := leN 4 id ++ ([((kind % 256 : Nat) : Int), 0] ++ (leN 2 body.length ++ ([0, 0, 0, 0] ++ (body ++ List.replicate (240 - body.length) 0))))
def pageOf (id kind : Nat) (body : List Int) : List Int := leN 4 (crc (restOf id kind body)) ++ restOf id kind body
theorem zeros4 : leN 4 0 = [0, 0, 0, 0] := rfl
theorem restOf_length (id kind : Nat) {body : List Int} (h : body.length ≤ 240) : (restOf id kind body).length = 252 := by
  simp [restOf, leN_length]; omega
theorem restOf_by (id kind : Nat) {body : List Int} (h : By body) : By (restOf id kind body) := by
  refine (leN_by _ _).append (By.append (By.cons ⟨by omega, by omega⟩ (By.cons (by decide) By.nil)) ((leN_by _ _).append (By.append (By.zeros 4) (By.append h (By.zeros _)))))
theorem pageOf_length (id kind : Nat) {body : List Int} (h : body.length ≤ 240) : (pageOf id kind body).length = 256 := by
  simp [pageOf, leN_length, restOf_length id kind h]
theorem pageOf_by (id kind : Nat) {body : List Int} (h : By body) : By (pageOf id kind body) := (leN_by _ _).append (restOf_by _ _ h)

theorem head_bytes {id kind size : Nat} (hi : id < 2 ^ 32) (hs : size < 2 ^ 16) : Cv (fun k => impl_head_bytes.f k (id : Int) (kind : Int) (size : Int)) (leN 4 id ++ ([((kind % 256 : Nat) : Int), 0] ++ (leN 2 size ++ [0, 0, 0, 0]))) := by
  unfold impl_head_bytes.f
  refine Cv.bind (impl_num (n := 4) (by omega) (by omega)) ?_
  refine Cv.bind (impl_num (n := 2) (by omega) (by omega)) ?_
  refine Cv.bind (impl_num (v := 0) (n := 4) (by omega) (by omega)) ?_
  refine Cv.of ?_
  unfold bytes_Join.f
  rw [if_pos]
  · simp only [Option.bind_some, Option.some.injEq, zeros4]
    simp
  · refine ⟨by simp, rfl, by simp, by simp [leN_length], ?_⟩
    have hall : ∀ l ∈ [leN 4 id, [(kind : Int) % 256, 0], leN 2 size, leN 4 0], By l := by
      intro l hl
      simp only [List.mem_cons, List.not_mem_nil, or_false] at hl
      rcases hl with rfl | rfl | rfl | rfl
      · exact leN_by _ _
      · exact By.cons ⟨by omega, by omega⟩ (By.cons (by decide) By.nil)
      · exact leN_by _ _
      · exact leN_by _ _
    exact hall
theorem spl_mid (a b c y : List Int) (o : Nat) (ho : a.length = o) (hy : y.length = b.length) : spl (a ++ (b ++ c)) o y = a ++ (y ++ c) := by
  subst ho
  unfold spl
  rw [List.take_left', hy, List.append_assoc]
  · congr 2
    rw [← List.append_assoc, ← List.length_append, List.drop_left']
    rfl
  · rfl

theorem page_bytes {id kind : Nat} {body : List Int} (hi : id < 2 ^ 32) (hb : By body) (hl : body.length ≤ 240) : Cv (fun k => impl_page_bytes.f k (id : Int) (kind : Int) (body.length : Int) body) (pageOf id kind body) := by
  unfold impl_page_bytes.f
  refine Cv.bind (head_bytes hi (by omega)) ?_
  refine Cv.pos (by simp [leN_length]) (Cv.pos hl ?_)
  have e1 : pageRest (leN 4 id ++ ([((kind % 256 : Nat) : Int), 0] ++ (leN 2 body.length ++ [0, 0, 0, 0]))) body = [0, 0, 0, 0] ++ restOf id kind body := by
    have hz : List.replicate 256 (0 : Int) = List.replicate 4 0 ++ (List.replicate 12 0 ++ (List.replicate body.length 0 ++ List.replicate (240 - body.length) 0)) := by
      rw [List.replicate_append_replicate, List.replicate_append_replicate, List.replicate_append_replicate]
      congr 1
      omega
    unfold pageRest
    rw [hz, spl_mid _ _ _ _ 4 (by simp) (by simp [leN_length]), ← List.append_assoc, spl_mid _ _ _ _ 16 (by simp [leN_length]) (by simp)]
    simp [restOf, List.append_assoc, List.replicate_succ]
  rw [e1]
  have e2 : ([0, 0, 0, 0] ++ restOf id kind body).drop 4 = restOf id kind body := rfl
  rw [e2]
  refine Cv.bind (impl_crc (restOf_by _ _ hb) (by rw [restOf_length _ _ hl]; decide)) ?_
  refine Cv.bind (impl_num (n := 4) (by have := crc_lt (restOf_by id kind hb); omega) (by omega)) ?_
  refine Cv.pos (by simp [leN_length]) (Cv.of ?_)
  unfold spl pageOf
  rw [leN_length]
  simp

/-! ### the document's page -/
def okPage (id kind : Int) (n : Nat) : Prop := 0 ≤ id ∧ id ≤ 1023 ∧ 1 ≤ kind ∧ kind ≤ 4 ∧ n ≤ 240
instance (id kind : Int) (n : Nat) : Decidable (okPage id kind n) := by unfold okPage; exact inferInstance
theorem spec_pad (k : Nat) (g : List Int → Option (List Int × Bool)) (hg : True) : ∀ (m : Nat) (x : List Int), x.length + m = 252 → spec_EncodePage.l0 (k + m) x = spec_EncodePage.l0 k (x ++ List.replicate m 0)
  | 0, x, h => by simp
  | m + 1, x, h => by
    have ih := spec_pad k g hg m (x ++ [0]) (by simp; omega)
    rw [show k + (m + 1) = (k + m) + 1 by omega]
    conv => lhs; unfold spec_EncodePage.l0
    rw [if_pos (by omega), if_pos (by omega), ih, List.append_assoc]
    rfl
theorem spec_tail {x : List Int} (hb : By x) (hx : x.length ≤ 252) : Cv (fun k => spec_EncodePage.l0 k x) (leN 4 (crc (x ++ List.replicate (252 - x.length) 0)) ++ (x ++ List.replicate (252 - x.length) 0), true) := by
  have hb2 : By (x ++ List.replicate (252 - x.length) 0) := hb.append (By.zeros _)
  have hlen : (x ++ List.replicate (252 - x.length) (0 : Int)).length = 252 := by simp; omega
  have h1 : Cv (fun k => spec_EncodePage.l0 k (x ++ List.replicate (252 - x.length) 0)) (leN 4 (crc (x ++ List.replicate (252 - x.length) 0)) ++ (x ++ List.replicate (252 - x.length) 0), true) := by
    refine Cv.succ (f := fun k => (spec_Crc32.f k (x ++ List.replicate (252 - x.length) 0)).bind fun t138 => ((spec_l2Num.f k t138 4).bind fun t139 => (if t139.length + (x ++ List.replicate (252 - x.length) (0 : Int)).length < 140737488355328 then (some ((t139 ++ (x ++ List.replicate (252 - x.length) 0)), true)) else (none)))) ?_ (fun k => ?_)
    · refine Cv.bind (spec_crc hb2 (by omega)) (Cv.bind (spec_num (n := 4) (by have := crc_lt hb2; omega) (by omega)) ?_)
      exact Cv.pos (by rw [leN_length, hlen]; decide) (Cv.of rfl)
    · conv => lhs; unfold spec_EncodePage.l0
      rw [if_neg (by omega)]
  obtain ⟨K, hK⟩ := h1
  refine ⟨K + (252 - x.length), fun k hk => ?_⟩
  obtain ⟨j, rfl⟩ : ∃ j, k = j + (252 - x.length) := ⟨k - (252 - x.length), by omega⟩
  show spec_EncodePage.l0 (j + (252 - x.length)) x = _
  rw [spec_pad j (fun _ => none) trivial (252 - x.length) x (by omega)]
  exact hK j (by omega)
theorem spec_j0_true (x0 x1 : Int) (x2 : List Int) : Cv (fun k => spec_EncodePage.j0 k x0 x1 x2 true) ([], false) :=
  Cv.from (m := 1) (fun k => by unfold spec_EncodePage.j0; dsimp only; rw [if_pos rfl])
theorem spec_j0_false {id kind : Nat} {body : List Int} (hi : id ≤ 1023) (hb : By body) (hl : body.length ≤ 240) : Cv (fun k => spec_EncodePage.j0 k (id : Int) (kind : Int) body false) (pageOf id kind body, true) := by
  refine Cv.succ (f := fun k => (spec_l2Num.f k (id : Int) 4).bind fun t111 => ((some (([((kind : Int)) % 256, 0] : List Int) : List Int)).bind fun y114 => (if t111.length + y114.length < 140737488355328 then ((some (t111 ++ y114 : List Int)).bind fun y117 => ((spec_l2Num.f k (body.length : Int) 2).bind fun t120 => (if y117.length + t120.length < 140737488355328 then ((some (y117 ++ t120 : List Int)).bind fun y123 => ((some (([0, 0, 0, 0] : List Int) : List Int)).bind fun y126 => (if y123.length + y126.length < 140737488355328 then ((some (y123 ++ y126 : List Int)).bind fun y129 => (if y129.length + body.length < 140737488355328 then (spec_EncodePage.l0 k (y129 ++ body)) else (none))) else (none)))) else (none)))) else (none)))) ?_ (fun k => ?_)
  · refine Cv.bind (spec_num (n := 4) (by omega) (by omega)) ?_
    refine Cv.bind (Cv.of rfl) ?_
    refine Cv.pos (by simp [leN_length]) ?_
    refine Cv.bind (Cv.of rfl) ?_
    refine Cv.bind (spec_num (n := 2) (by omega) (by omega)) ?_
    refine Cv.pos (by simp [leN_length]) ?_
    refine Cv.bind (Cv.of rfl) ?_
    refine Cv.bind (Cv.of rfl) ?_
    refine Cv.pos (by simp [leN_length]) ?_
    refine Cv.bind (Cv.of rfl) ?_
    refine Cv.pos (by simp [leN_length]; omega) ?_
    have hx : By (leN 4 id ++ [((kind : Int)) % 256, 0] ++ leN 2 body.length ++ [0, 0, 0, 0] ++ body) :=
      ((((leN_by _ _).append (By.cons ⟨by omega, by omega⟩ (By.cons (by decide) By.nil))).append (leN_by _ _)).append (By.zeros 4)).append hb
    have hlen : (leN 4 id ++ [((kind : Int)) % 256, 0] ++ leN 2 body.length ++ [0, 0, 0, 0] ++ body).length = 12 + body.length := by simp [leN_length]; omega
    have h := spec_tail hx (by omega)
    have e : (leN 4 id ++ [((kind : Int)) % 256, 0] ++ leN 2 body.length ++ [0, 0, 0, 0] ++ body) ++ List.replicate (252 - (leN 4 id ++ [((kind : Int)) % 256, 0] ++ leN 2 body.length ++ [0, 0, 0, 0] ++ body).length) 0 = restOf id kind body := by
      rw [hlen, show 252 - (12 + body.length) = 240 - body.length by omega]
      simp [restOf, List.append_assoc]
    rw [e] at h
    exact h
  · conv => lhs; unfold spec_EncodePage.j0
    dsimp only
    rw [if_neg (by decide)]
/-- What EncodePage gives. -/
def encV (id kind : Int) (body : List Int) : List Int × Bool := if okPage id kind body.length then (pageOf id.toNat kind.toNat body, true) else ([], false)
theorem spec_enc {id kind : Int} {body : List Int} (hb : By body) : Cv (fun k => spec_EncodePage.f k id kind body) (encV id kind body) := by
  unfold spec_EncodePage.f encV
  by_cases h1 : id < 0
  · rw [if_neg (by unfold okPage; omega)]
    exact Cv.pos h1 (spec_j0_true _ _ _)
  refine Cv.neg h1 ?_
  by_cases h2 : id > 1023
  · rw [if_neg (by unfold okPage; omega)]
    exact Cv.pos h2 (spec_j0_true _ _ _)
  refine Cv.neg h2 ?_
  by_cases h3 : kind < 1
  · rw [if_neg (by unfold okPage; omega)]
    exact Cv.pos h3 (spec_j0_true _ _ _)
  refine Cv.neg h3 ?_
  by_cases h4 : kind > 4
  · rw [if_neg (by unfold okPage; omega)]
    exact Cv.pos h4 (spec_j0_true _ _ _)
  refine Cv.neg h4 ?_
  by_cases h5 : (body.length : Int) > 240
  · rw [if_neg (by unfold okPage; omega), decide_eq_true h5]
    exact spec_j0_true _ _ _
  · rw [if_pos (by unfold okPage; omega), decide_eq_false h5]
    obtain ⟨i, rfl⟩ := Int.eq_ofNat_of_zero_le (show 0 ≤ id by omega)
    obtain ⟨q, rfl⟩ := Int.eq_ofNat_of_zero_le (show 0 ≤ kind by omega)
    exact spec_j0_false (by omega) hb (by omega)
theorem valid_eq (id kind size : Int) : impl_head_valid.f id kind size = some (decide (0 ≤ id ∧ id ≤ 1023 ∧ 1 ≤ kind ∧ kind ≤ 4 ∧ size ≤ 240)) := by
  unfold impl_head_valid.f
  split
  · split
    · split
      · split
        · simp_all
        · rw [decide_eq_false (by omega)]
      · rw [decide_eq_false (by omega)]
    · rw [decide_eq_false (by omega)]
  · rw [decide_eq_false (by omega)]
end Go.Proofs.Ytlopmffdebhpfaa.Pure

/-! ## G15 -/
namespace Go.Proofs.Ytlopmffdebhpfaa.G
open Go.RowKit Go.Proofs.YtlopmffdebhpfaaW.PrintWords Go.Proofs.YtlopmffdebhpfaaW.PrintLast Go.Proofs.YtlopmffdebhpfaaW.PrintMore
attribute [local go_sem] max2_int min2_int max_two min_two max_three min_three max_four min_four
set_option linter.unusedVariables false
set_option linter.unusedSimpArgs false

/-! ### laws_toByteS: function 15 -/
def laws_toByteS.l0 : Nat → List Int → List Int → Int → Option (List Int)
  | 0, _, _, _ => none
  | k + 1, x0, x3, x4 => if x4 < (x0.length : Int) then (if 0 ≤ x4 then (if x4 < (x3.length : Int) then (laws_toByteS.l0 k x0 (x3.set (x4 : Int).toNat (rd x0 x4)) (wrap64 (x4 + 1))) else (none)) else (none)) else (some x3)
def laws_toByteS.f (k : Nat) (l0 : List Int) : Option (List Int) := if 0 ≤ (l0.length : Int) then (if ((l0.length : Int) : Int).toNat ≤ 281474976710656 then (laws_toByteS.l0 k l0 (List.replicate ((l0.length : Int) : Int).toNat 0) 0) else (none)) else (none)
set_option maxHeartbeats 8000000 in
set_option maxRecDepth 100000 in
theorem laws_toByteS.calls (k : Nat) (A0 : Option Addr) (c0 : Nat) (l0 : List Int) (r : List Int) (w : World) (hr0 : Kd.C (Kd.int .u8) w A0 l0.length l0) (hc0 : l0.length ≤ c0) (h : laws_toByteS.f k l0 = some r) :
    Calls Try.prog 15 #[.slice A0 l0.length c0] w fun e w' => ∃ v0_ : Value, e = .returned (v0_) ∧ Kd.R (Kd.int .u8) 5 w' w.heap.size (fun _ => True) v0_ r ∧ Below w.heap.size w w' := by
  have HR0 := Aside0.mk hr0
  have HC0 := Aside0.mk hc0
  clear hr0 hc0
  have HB := Aside0.mk (Below.refl w.heap.size w)
  have H : (if 0 ≤ (l0.length : Int) then (if ((l0.length : Int) : Int).toNat ≤ 281474976710656 then (laws_toByteS.l0 k l0 (List.replicate ((l0.length : Int) : Int).toNat 0) 0) else (none)) else (none)) = some r := h
  clear h
  by_cases c2 : 0 ≤ (l0.length : Int)
  · rw [if_pos c2] at H
    have c2b0 := eq_true c2
    have c2b1 : decide (0 ≤ (l0.length : Int)) = true := decide_eq_true c2
    clear c2
    by_cases c3 : ((l0.length : Int) : Int).toNat ≤ 281474976710656
    · rw [if_pos c3] at H
      have c3b0 := eq_true c3
      have c3b1 : decide (((l0.length : Int) : Int).toNat ≤ 281474976710656) = true := decide_eq_true c3
      clear c3
      obtain ⟨y171, hy171⟩ : ∃ y_ : List Int, y_ = (List.replicate ((l0.length : Int) : Int).toNat 0) := ⟨_, rfl⟩
      replace H : (laws_toByteS.l0 k l0 y171 0) = some r := by first | (rw [hy171]; with_reducible exact H) | (have H2_ := (Option.bind_some _ _).symm.trans H; rw [hy171]; with_reducible exact H2_) | (have H2_ := (Option.bind_some _ _).symm.trans H; with_reducible exact H2_) | with_reducible exact H | (rw [hy171]; exact H) | exact H
      have Ny171 := Aside0.mk hy171
      clear hy171
      have H' := Aside0.mk H
      clear H
      go_enter Try.func15, Try.ntmps15
      go_wp2_with (first | ((with_reducible refine gate_dst (N := 7) rfl ?_); refine Kd.R_make (Kd.int .u8) _ 5 rfl (N := 7) rfl 22 _ _ rfl (l0.length : Int) rfl rfl Try.underlying22 (.int .u8 0) 1 info5 rfl (by decide) (by omega) 0 (ok := fun _ => True) (okp := fun _ => True) rfl (fun _ hk => hk) trivial (of_decide_eq_true (by first | (with_reducible assumption) | assumption)) (Nat.le_trans (Nat.mul_le_mul_right _ (of_decide_eq_true (by first | (with_reducible assumption) | assumption) : (l0.length : Int).toNat ≤ 281474976710656)) (by omega)) (Below.refl _ _) (Nat.le_refl _) ?_; intro v172 w4 ho5 hb hg_ hnew_; clear hg_ hnew_; (first | rw [← Ny171.out] at ho5 | (simp only [Int.reduceToNat] at ho5; rw [← Ny171.out] at ho5)); have n0_ := Aside0.mk (Kd.R_lower ho5 (below_size (by repeat (first | (with_reducible first | exact HB.out | apply below_alloc | apply pw_below_drewN | apply below_drew1) | exact HB.out)))); have n1_ := Aside0.mk (below_step (by repeat (first | (with_reducible first | exact HB.out | apply below_alloc | apply pw_below_drewN | apply below_drew1) | exact HB.out)) hb); clear HB; have HO173 := n0_; have HB := n1_; clear n0_ n1_; clear hb ho5))
      go_loopg [4] k (fun kq v4 w' => ∃ (x3_1 : List Int) (x4_1 : Int), v4 = .int .i64 x4_1 ∧ Aside0 (laws_toByteS.l0 kq l0 x3_1 x4_1 = some r) ∧ Aside0 (kq ≤ k) ∧ Aside0 (Kd.R (Kd.int .u8) 5 w' w.heap.size (fun _ => True) v172 x3_1) ∧ Aside0 (Below w.heap.size w w'))
      case atStart => exact ⟨(y171), (0), (by first | rfl | (simp; done) | (simp [*]; done)), H', ⟨Nat.le_refl _⟩, ⟨by (with_reducible repeat (first | apply Kd.R_alloc | apply Kd.R_drewN | apply Kd.R_drew)); exact HO173.out⟩, ⟨by repeat (first | (with_reducible first | exact HB.out | apply below_alloc | apply pw_below_drewN | apply below_drew1) | exact HB.out)⟩⟩
      case round =>
        clear H'
        try clear c1
        try clear c2
        try clear c2b0
        try clear c2b1
        try clear p2
        try clear c3
        try clear c3b0
        try clear c3b1
        obtain ⟨x3_1, x4_1, rfl, HA, HK1, HO_3, HB⟩ := hrel
        cases gk with
        | zero => exact absurd HA.out (by simp [laws_toByteS.l0])
        | succ k1 =>
          have H := HA.out
          clear HA
          simp only [laws_toByteS.l0] at H
          by_cases c6 : x4_1 < (l0.length : Int)
          · rw [if_pos c6] at H
            have c6b0 : decide (x4_1 < (l0.length : Int)) = true := decide_eq_true c6
            clear c6
            by_cases c7 : 0 ≤ x4_1
            · rw [if_pos c7] at H
              have c7b0 : decide (0 ≤ x4_1) = true := decide_eq_true c7
              clear c7
              by_cases c8 : x4_1 < (x3_1.length : Int)
              · rw [if_pos c8] at H
                have c8b0 : decide (x4_1 < (x3_1.length : Int)) = true := decide_eq_true c8
                clear c8
                obtain ⟨y175, hy175⟩ : ∃ y_ : List Int, y_ = (x3_1.set (x4_1 : Int).toNat (rd l0 x4_1)) := ⟨_, rfl⟩
                replace H : (laws_toByteS.l0 k1 l0 y175 (wrap64 (x4_1 + 1))) = some r := by first | (rw [hy175]; with_reducible exact H) | (have H2_ := (Option.bind_some _ _).symm.trans H; rw [hy175]; with_reducible exact H2_) | (have H2_ := (Option.bind_some _ _).symm.trans H; with_reducible exact H2_) | with_reducible exact H | (rw [hy175]; exact H) | exact H
                have Ny175 := Aside0.mk hy175
                clear hy175
                have H' := Aside0.mk H
                clear H
                have p174 : 0 ≤ (x4_1 : Int) := of_decide_eq_true (by first | (with_reducible assumption) | assumption)
                have q174 : x4_1 < (l0.length : Int) := of_decide_eq_true (by first | (with_reducible assumption) | assumption)
                obtain ⟨ad174, e174, hx174_0⟩ := Kd.at_int HR0.out x4_1 p174 q174
                cases e174
                replace hx174_0 := (HB.out.cell (World.block_lt_of_cell? w _ hx174_0)).trans hx174_0
                replace p174 := eq_true p174
                replace q174 := eq_true q174
                have p9 : 0 ≤ (x4_1 : Int) := of_decide_eq_true (by first | (with_reducible assumption) | assumption)
                have q9 : (x4_1 : Int) < ((x3_1.length : Int) : Int) := of_decide_eq_true (by first | (with_reducible assumption) | assumption)
                obtain ⟨go9, co9, eo9, gb9, gl9, cl9, HG9⟩ := Kd.R_form HO_3.out (by omega)
                (first | cases eo9 | (injection eo9 with ea_ en_ ec_; (first | subst ea_ | (injection ea_ with ea_; subst ea_)); subst ec_; clear en_))
                have GB9 := Aside0.mk gb9
                have GG9 := Aside0.mk HG9
                clear gb9 gl9 HG9
                obtain ⟨hx9_0, hf9_0⟩ := Kd.R_celln 0 HO_3.out (x4_1 : Int) p9 q9
                replace p9 := eq_true p9
                replace q9 := eq_true q9
                have HP10 := Kd.R_putg HO_3.out (x4_1 : Int) (rd l0 x4_1)
                go_wp2_with (first | ((with_reducible refine gate_store (t := 5) (p := 20) rfl ?_); refine store_event (t := 5) (p := 20) (v := ?vo_w11) (w1 := (wr.setCell ⟨go9, (x4_1 : Int).toNat, none⟩ (.int .u8 (rd l0 x4_1)))) ?hg ?ho ?hn ?hr ?_; (case ho => rfl); (case hg => rfl); (case hn => rfl); (case hr => first | (go_simp; done) | (go_simp; rfl)); intro w11 hw; have hg : wr.grownBy w11 (some go9) := (by rw [hw]; exact HP10.2); have hp_ : Kd.R (Kd.int .u8) 5 w11 w.heap.size (fun _ => True) (.slice (some ⟨go9, 0, none⟩) x3_1.length co9) y175 := (by rw [hw, Ny175.out]; exact HP10.1); clear HP10; have n0_ := Aside0.mk (hp_); have n1_ := Aside0.mk ((by rw [hw]; exact below_set (HB.out) GB9.out : Below w.heap.size w w11)); clear HO_3; clear HB; have HO_3 := n0_; have HB := n1_; clear n0_ n1_; clear hg hw hp_))
                go_roundg k1
                case measure => have := HK1.out; omega
                case rel => exact ⟨(y175), (wrap64 (x4_1 + 1)), (by first | rfl | (simp; done) | (simp [*]; done)), H', ⟨by have := HK1.out; omega⟩, ⟨by (with_reducible repeat (first | apply Kd.R_alloc | apply Kd.R_drewN | apply Kd.R_drew)); exact HO_3.out⟩, ⟨by repeat (first | (with_reducible first | exact HB.out | apply below_alloc | apply pw_below_drewN | apply below_drew1) | exact HB.out)⟩⟩
              · rw [if_neg c8] at H
                exact absurd H (by simp)
            · rw [if_neg c7] at H
              exact absurd H (by simp)
          · rw [if_neg c6] at H
            have c6b0 : decide (x4_1 < (l0.length : Int)) = false := decide_eq_false c6
            clear c6
            obtain rfl := Option.some.inj H
            go_wp2
            go_ret
            exact ⟨_, by first | rfl | (simp [errW_none, errW_some] <;> rfl) | (simp [*, errW_none, errW_some] <;> rfl), by (with_reducible repeat (first | apply Kd.R_alloc | apply Kd.R_drewN | apply Kd.R_drew)); exact HO_3.out, by repeat (first | (with_reducible first | exact HB.out | apply below_alloc | apply pw_below_drewN | apply below_drew1) | exact HB.out)⟩
    · rw [if_neg c3] at H
      exact absurd H (by simp)
  · rw [if_neg c2] at H
    exact absurd H (by simp)

end Go.Proofs.Ytlopmffdebhpfaa.G

/-! ## G17 -/
namespace Go.Proofs.Ytlopmffdebhpfaa.G
open Go.RowKit Go.Proofs.YtlopmffdebhpfaaW.PrintWords Go.Proofs.YtlopmffdebhpfaaW.PrintLast Go.Proofs.YtlopmffdebhpfaaW.PrintMore
attribute [local go_sem] max2_int min2_int max_two min_two max_three min_three max_four min_four
set_option linter.unusedVariables false
set_option linter.unusedSimpArgs false

/-! ### laws_eqByteS: function 17 -/
def laws_eqByteS.l0 : Nat → List Int → List Int → Int → Option (Bool)
  | 0, _, _, _ => none
  | k + 1, x0, x1, x5 => if x5 < (x0.length : Int) then (if 0 ≤ x5 then (if x5 < (x1.length : Int) then (if (rd x0 x5) = (rd x1 x5) then (laws_eqByteS.l0 k x0 x1 (wrap64 (x5 + 1))) else (some false)) else (none)) else (none)) else (some true)
def laws_eqByteS.f (k : Nat) (l0 : List Int) (l1 : List Int) : Option (Bool) := if (l0.length : Int) = (l1.length : Int) then (laws_eqByteS.l0 k l0 l1 0) else (some false)
set_option maxHeartbeats 8000000 in
set_option maxRecDepth 100000 in
theorem laws_eqByteS.calls (k : Nat) (A0 : Option Addr) (c0 : Nat) (l0 : List Int) (A1 : Option Addr) (c1 : Nat) (l1 : List Int) (r : Bool) (w : World) (hr0 : Kd.C (Kd.int .u8) w A0 l0.length l0) (hc0 : l0.length ≤ c0) (hr1 : Kd.C (Kd.int .u8) w A1 l1.length l1) (hc1 : l1.length ≤ c1) (h : laws_eqByteS.f k l0 l1 = some r) :
    Calls Try.prog 17 #[.slice A0 l0.length c0, .slice A1 l1.length c1] w fun e w' => e = .returned (.bool r) ∧ Drawn0 w w' := by
  have HR0 := Aside0.mk hr0
  have HC0 := Aside0.mk hc0
  clear hr0 hc0
  have HR1 := Aside0.mk hr1
  have HC1 := Aside0.mk hc1
  clear hr1 hc1
  have H : (if (l0.length : Int) = (l1.length : Int) then (laws_eqByteS.l0 k l0 l1 0) else (some false)) = some r := h
  clear h
  by_cases c3 : (l0.length : Int) = (l1.length : Int)
  · rw [if_pos c3] at H
    have c3b0 : ((l0.length : Int) == (l1.length : Int)) = true := beq_iff_eq.mpr c3
    have c3b1 : ((l0.length : Int) != (l1.length : Int)) = false := bne_eq_false_iff_eq.mpr c3
    have c3b2 : (l0.length == l1.length) = true := by first | simpa using c3 | (simp at c3 ⊢; omega)
    clear c3
    have H' := Aside0.mk H
    clear H
    go_enter Try.func17, Try.ntmps17
    go_wp2
    repeat (go_quiet (fail); try go_wp2)
    go_loopg [5] k (fun kq v5 w' => ∃ (x5_1 : Int), v5 = .int .i64 x5_1 ∧ Aside0 (laws_eqByteS.l0 kq l0 l1 x5_1 = some r) ∧ Aside0 (kq ≤ k) ∧ Drawn0 w w')
    case atStart => exact ⟨(0), (by first | rfl | (simp; done) | (simp [*]; done)), H', ⟨Nat.le_refl _⟩, by repeat (first | exact Drawn0.refl _ | apply Drawn0.step)⟩
    case round =>
      clear H'
      try clear c1
      try clear p2
      try clear c3
      try clear c3b0
      try clear c3b1
      try clear c3b2
      obtain ⟨x5_1, rfl, HA, HK1, ⟨m1, rfl⟩⟩ := hrel
      cases gk with
      | zero => exact absurd HA.out (by simp [laws_eqByteS.l0])
      | succ k1 =>
        have H := HA.out
        clear HA
        simp only [laws_eqByteS.l0] at H
        by_cases c4 : x5_1 < (l0.length : Int)
        · rw [if_pos c4] at H
          have c4b0 : decide (x5_1 < (l0.length : Int)) = true := decide_eq_true c4
          clear c4
          by_cases c5 : 0 ≤ x5_1
          · rw [if_pos c5] at H
            have c5b0 : decide (0 ≤ x5_1) = true := decide_eq_true c5
            clear c5
            by_cases c6 : x5_1 < (l1.length : Int)
            · rw [if_pos c6] at H
              have c6b0 : decide (x5_1 < (l1.length : Int)) = true := decide_eq_true c6
              clear c6
              by_cases c7 : (rd l0 x5_1) = (rd l1 x5_1)
              · rw [if_pos c7] at H
                have c7b0 : ((rd l0 x5_1) == (rd l1 x5_1)) = true := beq_iff_eq.mpr c7
                have c7b1 : ((rd l0 x5_1) != (rd l1 x5_1)) = false := bne_eq_false_iff_eq.mpr c7
                clear c7
                have H' := Aside0.mk H
                clear H
                have p176 : 0 ≤ (x5_1 : Int) := of_decide_eq_true (by first | (with_reducible assumption) | assumption)
                have q176 : x5_1 < (l0.length : Int) := of_decide_eq_true (by first | (with_reducible assumption) | assumption)
                obtain ⟨ad176, e176, hx176_0⟩ := Kd.at_int HR0.out x5_1 p176 q176
                cases e176
                replace p176 := eq_true p176
                replace q176 := eq_true q176
                have p177 : 0 ≤ (x5_1 : Int) := of_decide_eq_true (by first | (with_reducible assumption) | assumption)
                have q177 : x5_1 < (l1.length : Int) := of_decide_eq_true (by first | (with_reducible assumption) | assumption)
                obtain ⟨ad177, e177, hx177_0⟩ := Kd.at_int HR1.out x5_1 p177 q177
                cases e177
                replace p177 := eq_true p177
                replace q177 := eq_true q177
                go_wp2
                repeat (go_quiet (fail); try go_wp2)
                go_roundg k1
                case measure => have := HK1.out; omega
                case rel => exact ⟨(wrap64 (x5_1 + 1)), (by first | rfl | (simp; done) | (simp [*]; done)), H', ⟨by have := HK1.out; omega⟩, by repeat (first | exact Drawn0.refl _ | apply Drawn0.step)⟩
              · rw [if_neg c7] at H
                have c7b0 : ((rd l0 x5_1) == (rd l1 x5_1)) = false := beq_eq_false_iff_ne.mpr c7
                have c7b1 : ((rd l0 x5_1) != (rd l1 x5_1)) = true := bne_iff_ne.mpr c7
                obtain rfl := Option.some.inj H
                have p176 : 0 ≤ (x5_1 : Int) := of_decide_eq_true (by first | (with_reducible assumption) | assumption)
                have q176 : x5_1 < (l0.length : Int) := of_decide_eq_true (by first | (with_reducible assumption) | assumption)
                obtain ⟨ad176, e176, hx176_0⟩ := Kd.at_int HR0.out x5_1 p176 q176
                cases e176
                replace p176 := eq_true p176
                replace q176 := eq_true q176
                have p177 : 0 ≤ (x5_1 : Int) := of_decide_eq_true (by first | (with_reducible assumption) | assumption)
                have q177 : x5_1 < (l1.length : Int) := of_decide_eq_true (by first | (with_reducible assumption) | assumption)
                obtain ⟨ad177, e177, hx177_0⟩ := Kd.at_int HR1.out x5_1 p177 q177
                cases e177
                replace p177 := eq_true p177
                replace q177 := eq_true q177
                go_wp2
                repeat (go_quiet (fail); try go_wp2)
                go_ret
                exact ⟨by first | rfl | (simp; done) | (simp [*]; done), by repeat (first | exact Drawn0.refl _ | apply Drawn0.step)⟩
            · rw [if_neg c6] at H
              exact absurd H (by simp)
          · rw [if_neg c5] at H
            exact absurd H (by simp)
        · rw [if_neg c4] at H
          have c4b0 : decide (x5_1 < (l0.length : Int)) = false := decide_eq_false c4
          clear c4
          obtain rfl := Option.some.inj H
          go_wp2
          repeat (go_quiet (fail); try go_wp2)
          go_ret
          exact ⟨by first | rfl | (simp; done) | (simp [*]; done), by repeat (first | exact Drawn0.refl _ | apply Drawn0.step)⟩
  · rw [if_neg c3] at H
    have c3b0 : ((l0.length : Int) == (l1.length : Int)) = false := beq_eq_false_iff_ne.mpr c3
    have c3b1 : ((l0.length : Int) != (l1.length : Int)) = true := bne_iff_ne.mpr c3
    have c3b2 : (l0.length == l1.length) = false := by first | simpa using c3 | (simp at c3 ⊢; omega)
    obtain rfl := Option.some.inj H
    go_enter Try.func17, Try.ntmps17
    go_wp2
    repeat (go_quiet (fail); try go_wp2)
    go_ret
    exact ⟨by first | rfl | (simp; done) | (simp [*]; done), by repeat (first | exact Drawn0.refl _ | apply Drawn0.step)⟩

end Go.Proofs.Ytlopmffdebhpfaa.G

/-! ## G18 -/
namespace Go.Proofs.Ytlopmffdebhpfaa.G
open Go.RowKit Go.Proofs.YtlopmffdebhpfaaW.PrintWords Go.Proofs.YtlopmffdebhpfaaW.PrintLast Go.Proofs.YtlopmffdebhpfaaW.PrintMore
attribute [local go_sem] max2_int min2_int max_two min_two max_three min_three max_four min_four
set_option linter.unusedVariables false
set_option linter.unusedSimpArgs false

/-! ### laws_markByteS: function 18 -/
def laws_markByteS.l0 : Nat → List Int → Int → Int → Option (Int × List Int)
  | 0, _, _, _ => none
  | k + 1, x0, x1, x5 => if x5 < (x0.length : Int) then (if 0 ≤ x5 then (laws_markByteS.l0 k (x0.set (x5 : Int).toNat ((x1) % 256)) (wrap64 (x1 + 1)) (wrap64 (x5 + 1))) else (none)) else (some (x1, x0))
def laws_markByteS.f (k : Nat) (l0 : List Int) (a1 : Int) : Option (Int × List Int) := laws_markByteS.l0 k l0 a1 0
set_option maxHeartbeats 8000000 in
set_option maxRecDepth 100000 in
theorem laws_markByteS.calls (k : Nat) (P0_ : Nat → Prop) (u9000_ : Value) (l0 : List Int) (a1 : Int) (r1 : Int) (r2 : List Int) (w0 w : World) (hB : Below w0.heap.size w0 w) (ho0 : Kd.R (Kd.int .u8) 5 w w0.heap.size P0_ u9000_ l0) (h : laws_markByteS.f k l0 a1 = some (r1, r2)) :
    Calls Try.prog 18 #[u9000_, .int .i64 a1] w fun e w' => e = .returned (.int .i64 r1) ∧ Kd.R (Kd.int .u8) 5 w' w0.heap.size (fun k_ => (P0_ k_ ∨ w.heap.size ≤ k_)) u9000_ r2 ∧ Below w0.heap.size w0 w' ∧ Kept w w' (fun k_ => P0_ k_) := by
  have HO0 := Aside0.mk (show Kd.R (Kd.int .u8) 5 w w0.heap.size (fun k_ => (P0_ k_ ∨ w.heap.size ≤ k_)) u9000_ l0 from Kd.R_mono ho0 (fun k_ hk => (.inl hk)))
  have HK := Aside0.mk (Kept.refl w (fun k_ => P0_ k_))
  have HW0 := Aside0.mk hB.size
  have HB := Aside0.mk hB
  clear hB
  have H : (laws_markByteS.l0 k l0 a1 0) = some (r1, r2) := h
  clear h
  have H' := Aside0.mk H
  clear H
  go_enter Try.func18, Try.ntmps18
  go_wp2
  go_loopg [1, 5] k (fun kq v1 v5 w' => ∃ (x0_1 : List Int) (x1_1 : Int) (x5_1 : Int), v1 = .int .i64 x1_1 ∧ v5 = .int .i64 x5_1 ∧ Aside0 (laws_markByteS.l0 kq x0_1 x1_1 x5_1 = some (r1, r2)) ∧ Aside0 (kq ≤ k) ∧ Aside0 (Kd.R (Kd.int .u8) 5 w' w0.heap.size (fun k_ => (P0_ k_ ∨ w.heap.size ≤ k_)) u9000_ x0_1) ∧ Aside0 (Kept w w' (fun k_ => P0_ k_)) ∧ Aside0 (Below w0.heap.size w0 w'))
  case atStart => exact ⟨(l0), (a1), (0), (by first | rfl | (simp; done) | (simp [*]; done)), (by first | rfl | (simp; done) | (simp [*]; done)), H', ⟨Nat.le_refl _⟩, ⟨by (with_reducible repeat (first | apply Kd.R_alloc | apply Kd.R_drewN | apply Kd.R_drew)); exact HO0.out⟩, ⟨by repeat (first | (with_reducible first | exact HK.out | apply Kept.alloc | apply Kept.drewN | apply Kept.drew) | exact HK.out)⟩, ⟨by repeat (first | (with_reducible first | exact HB.out | apply below_alloc | apply pw_below_drewN | apply below_drew1) | exact HB.out)⟩⟩
  case round =>
    clear H'
    try clear c1
    try clear p2
    obtain ⟨x0_1, x1_1, x5_1, rfl, rfl, HA, HK1, HO_0, HK, HB⟩ := hrel
    cases gk with
    | zero => exact absurd HA.out (by simp [laws_markByteS.l0])
    | succ k1 =>
      have H := HA.out
      clear HA
      simp only [laws_markByteS.l0] at H
      by_cases c3 : x5_1 < (x0_1.length : Int)
      · rw [if_pos c3] at H
        have c3b0 : decide (x5_1 < (x0_1.length : Int)) = true := decide_eq_true c3
        clear c3
        by_cases c4 : 0 ≤ x5_1
        · rw [if_pos c4] at H
          have c4b0 : decide (0 ≤ x5_1) = true := decide_eq_true c4
          clear c4
          obtain ⟨y178, hy178⟩ : ∃ y_ : List Int, y_ = (x0_1.set (x5_1 : Int).toNat ((x1_1) % 256)) := ⟨_, rfl⟩
          replace H : (laws_markByteS.l0 k1 y178 (wrap64 (x1_1 + 1)) (wrap64 (x5_1 + 1))) = some (r1, r2) := by first | (rw [hy178]; with_reducible exact H) | (have H2_ := (Option.bind_some _ _).symm.trans H; rw [hy178]; with_reducible exact H2_) | (have H2_ := (Option.bind_some _ _).symm.trans H; with_reducible exact H2_) | with_reducible exact H | (rw [hy178]; exact H) | exact H
          have Ny178 := Aside0.mk hy178
          clear hy178
          have H' := Aside0.mk H
          clear H
          obtain ⟨Ao6, co6, eo6⟩ := Kd.R_slice HO_0.out
          subst eo6
          have p5 : 0 ≤ (x5_1 : Int) := of_decide_eq_true (by first | (with_reducible assumption) | assumption)
          have q5 : (x5_1 : Int) < ((x0_1.length : Int) : Int) := of_decide_eq_true (by first | (with_reducible assumption) | assumption)
          obtain ⟨go5, co5, eo5, gb5, gl5, cl5, HG5⟩ := Kd.R_form HO_0.out (by omega)
          (first | cases eo5 | (injection eo5 with ea_ en_ ec_; (first | subst ea_ | (injection ea_ with ea_; subst ea_)); subst ec_; clear en_))
          have GB5 := Aside0.mk gb5
          have GG5 := Aside0.mk HG5
          clear gb5 gl5 HG5
          have HMgo5 := Aside0.mk (show (P0_ go5 ∨ w.heap.size ≤ go5) from (HO_0.out.1 _ rfl))
          obtain ⟨hx5_0, hf5_0⟩ := Kd.R_celln 0 HO_0.out (x5_1 : Int) p5 q5
          replace p5 := eq_true p5
          replace q5 := eq_true q5
          have HP7 := Kd.R_putg HO_0.out (x5_1 : Int) ((x1_1) % 256)
          go_wp2_with (first | ((with_reducible refine gate_store (t := 5) (p := 16) rfl ?_); refine store_event (t := 5) (p := 16) (v := ?vo_w8) (w1 := (wr.setCell ⟨go5, (x5_1 : Int).toNat, none⟩ (.int .u8 ((x1_1) % 256)))) ?hg ?ho ?hn ?hr ?_; (case ho => rfl); (case hg => rfl); (case hn => rfl); (case hr => first | (go_simp; done) | (go_simp; rfl)); intro w8 hw; have hg : wr.grownBy w8 (some go5) := (by rw [hw]; exact HP7.2); have hp_ : Kd.R (Kd.int .u8) 5 w8 w0.heap.size (fun k_ => (P0_ k_ ∨ w.heap.size ≤ k_)) (.slice (some ⟨go5, 0, none⟩) x0_1.length co6) y178 := (by rw [hw, Ny178.out]; exact HP7.1); clear HP7; have n0_ := Aside0.mk (hp_); have n1_ := Aside0.mk ((by rw [hw]; exact below_set (HB.out) GB5.out : Below w0.heap.size w0 w8)); have n2_ := Aside0.mk (Kept.of_grown (S := (fun k_ => P0_ k_)) hg (by repeat (first | (with_reducible first | exact HK.out | apply Kept.alloc | apply Kept.drewN | apply Kept.drew) | exact HK.out)) (fun k_ e_ => (HO_0.out.1 k_ e_))); clear HO_0; clear HB; clear HK; have HO_0 := n0_; have HB := n1_; have HK := n2_; clear n0_ n1_ n2_; clear hg hw hp_))
          go_roundg k1
          case measure => have := HK1.out; omega
          case rel => exact ⟨(y178), (wrap64 (x1_1 + 1)), (wrap64 (x5_1 + 1)), (by first | rfl | (simp; done) | (simp [*]; done)), (by first | rfl | (simp; done) | (simp [*]; done)), H', ⟨by have := HK1.out; omega⟩, ⟨by (with_reducible repeat (first | apply Kd.R_alloc | apply Kd.R_drewN | apply Kd.R_drew)); exact HO_0.out⟩, ⟨by repeat (first | (with_reducible first | exact HK.out | apply Kept.alloc | apply Kept.drewN | apply Kept.drew) | exact HK.out)⟩, ⟨by repeat (first | (with_reducible first | exact HB.out | apply below_alloc | apply pw_below_drewN | apply below_drew1) | exact HB.out)⟩⟩
        · rw [if_neg c4] at H
          exact absurd H (by simp)
      · rw [if_neg c3] at H
        have c3b0 : decide (x5_1 < (x0_1.length : Int)) = false := decide_eq_false c3
        clear c3
        simp only [Option.some.injEq, Prod.mk.injEq] at H
        obtain ⟨rfl, rfl⟩ := H
        obtain ⟨Ao9, co9, eo9⟩ := Kd.R_slice HO_0.out
        subst eo9
        go_wp2
        go_ret
        exact ⟨by first | rfl | (simp [errW_none, errW_some] <;> rfl) | (simp [*, errW_none, errW_some] <;> rfl), by (with_reducible repeat (first | apply Kd.R_alloc | apply Kd.R_drewN | apply Kd.R_drew)); exact HO_0.out, by repeat (first | (with_reducible first | exact HB.out | apply below_alloc | apply pw_below_drewN | apply below_drew1) | exact HB.out), by repeat (first | (with_reducible first | exact HK.out | apply Kept.alloc | apply Kept.drewN | apply Kept.drew) | exact HK.out)⟩

end Go.Proofs.Ytlopmffdebhpfaa.G

/-! ## G19 -/
namespace Go.Proofs.Ytlopmffdebhpfaa.G
open Go.RowKit Go.Proofs.YtlopmffdebhpfaaW.PrintWords Go.Proofs.YtlopmffdebhpfaaW.PrintLast Go.Proofs.YtlopmffdebhpfaaW.PrintMore
attribute [local go_sem] max2_int min2_int max_two min_two max_three min_three max_four min_four
set_option linter.unusedVariables false
set_option linter.unusedSimpArgs false

/-! ### laws_heldByteS: function 19 -/
end Go.Proofs.Ytlopmffdebhpfaa.G

/-! ## Dec -/
namespace Go.Proofs.Ytlopmffdebhpfaa.Pure
open Go.RowKit Go.Proofs.Ytlopmffdebhpfaa.G Go.Proofs.YtlopmffdebhpfaaW.PrintWords Go.Proofs.YtlopmffdebhpfaaW.PrintLast Go.Proofs.YtlopmffdebhpfaaW.PrintMore

theorem low2 {a b : Int} (ha : 0 ≤ a ∧ a < 256) (hb : 0 ≤ b ∧ b < 256) : Cv (fun k => spec_l2Low.f k [a, b]) (a + 256 * b) :=
  Cv.from (m := 3) (fun k => by
    unfold spec_l2Low.f
    rw [show wrap64 (((([a, b] : List Int).length : Nat) : Int) - 1) = 1 from by unfold wrap64; simp]
    rw [show k + 3 = k + 2 + 1 from rfl]
    unfold spec_l2Low.l0
    rw [if_pos (by decide), if_pos (by decide), if_pos (by simp), show rd [a, b] 1 = b from rfl, show wrap64 (1 - 1) = 0 from by unfold wrap64; omega]
    unfold spec_l2Low.l0
    rw [if_pos (by decide), if_pos (by decide), if_pos (by simp), show rd [a, b] 0 = a from rfl, show wrap64 (0 - 1) = -1 from by unfold wrap64; omega]
    unfold spec_l2Low.l0
    rw [if_neg (by decide)]
    rw [w64 (n := b) (by omega) (by omega), w64 (n := a) (by omega) (by omega), show wrap64 (0 * 256) = 0 from by unfold wrap64; omega, w64 (n := 0 + b) (by omega) (by omega), w64 (n := (0 + b) * 256) (by omega) (by omega), w64 (by omega) (by omega)]
    congr 1
    omega)
theorem or_i64 (a b : Nat) (ha : a < 2 ^ 32) (hb : b < 2 ^ 32) : Go.bits .or .i64 a b = ((a ||| b : Nat) : Int) :=
  (bits_nat .i64 32 (by decide) (fun n h0 h1 => by rw [IntKind.wrap_i64]; omega) a b ha hb).2
theorem num2 {a b : Int} (ha : 0 ≤ a ∧ a < 256) (hb : 0 ≤ b ∧ b < 256) : Cv (fun k => impl_numberAt.f k [a, b]) (a + 256 * b) :=
  Cv.from (m := 3) (fun k => by
    obtain ⟨x, rfl⟩ := Int.eq_ofNat_of_zero_le ha.1
    obtain ⟨y, rfl⟩ := Int.eq_ofNat_of_zero_le hb.1
    have hx : x < 256 := by omega
    have hy : y < 256 := by omega
    unfold impl_numberAt.f
    rw [show k + 3 = k + 2 + 1 from rfl]
    unfold impl_numberAt.l0
    rw [if_pos (by simp), if_pos (by decide), if_pos (by simp), if_pos (by unfold wrap64; omega), show rd [(x : Int), (y : Int)] 0 = (x : Int) from rfl, show wrap64 (0 + 1) = 1 from by unfold wrap64; omega, show wrap64 (8 * 0) = 0 from by unfold wrap64; omega]
    have e1 : shl .i64 (wrap64 (x : Int)) 0 = (x : Int) := by
      unfold shl
      rw [w64 (by omega) (by omega), IntKind.wrap_i64]
      simp only [Int.toNat_zero, Nat.zero_min, Int.pow_zero]
      omega
    have e2 : Go.bits .or .i64 0 (x : Int) = (x : Int) := by
      have := or_i64 0 x (by decide) (by omega)
      simpa using this
    rw [e1, e2]
    unfold impl_numberAt.l0
    rw [if_pos (by simp), if_pos (by decide), if_pos (by simp), if_pos (by unfold wrap64; omega), show rd [(x : Int), (y : Int)] 1 = (y : Int) from rfl, show wrap64 (1 + 1) = 2 from by unfold wrap64; omega, show wrap64 (8 * 1) = 8 from by unfold wrap64; omega]
    have e3 : shl .i64 (wrap64 (y : Int)) 8 = ((y * 256 : Nat) : Int) := by
      unfold shl
      rw [w64 (by omega) (by omega), IntKind.wrap_i64, show min ((8 : Int)).toNat IntKind.i64.bits = 8 from rfl, show ((2 : Int) ^ 8) = 256 from rfl]
      omega
    have e4 : Go.bits .or .i64 (x : Int) ((y * 256 : Nat) : Int) = ((x + 256 * y : Nat) : Int) := by
      rw [or_i64 x (y * 256) (by omega) (by omega), Nat.or_comm]
      have h := Nat.two_pow_add_eq_or_of_lt (i := 8) (b := x) (by omega) y
      rw [show 2 ^ 8 * y = y * 256 by omega] at h
      rw [← h]
      congr 1
      omega
    rw [e3, e4]
    unfold impl_numberAt.l0
    rw [if_neg (by simp)]
    congr 1
    )

theorem same_l0 (k : Nat) : ∀ (a b pa pb : List Int), pa.length = pb.length → a.length = b.length → (pa ++ a).length ≤ 9223372036854775806 →
    spec_l2Same.l0 (k + a.length + 1) (pa ++ a) (pb ++ b) (pa.length : Int) = some (decide (a = b))
  | [], [], pa, pb, hp, hl, hm => by
    unfold spec_l2Same.l0
    rw [if_neg (by simp)]
    simp
  | [], y :: b, pa, pb, hp, hl, hm => by simp at hl
  | x :: a, [], pa, pb, hp, hl, hm => by simp at hl
  | x :: a, y :: b, pa, pb, hp, hl, hm => by
    have h1 : (pa ++ x :: a).length = pa.length + a.length + 1 := by simp; omega
    have h2 : (pb ++ y :: b).length = pa.length + b.length + 1 := by simp; omega
    rw [show k + (x :: a).length + 1 = (k + a.length + 1) + 1 by simp; omega]
    conv => lhs; unfold spec_l2Same.l0
    rw [if_pos (by omega), if_pos (by omega), if_pos (by omega), rd_mid]
    have e : rd (pb ++ y :: b) (pa.length : Int) = y := by rw [hp]; exact rd_mid _ _ _
    rw [e]
    by_cases hxy : x = y
    · rw [if_pos hxy, w64 (by omega) (by omega)]
      have ih := same_l0 k a b (pa ++ [x]) (pb ++ [y]) (by simp [hp]) (by simpa using hl) (by simpa using hm)
      rw [List.append_assoc, List.append_assoc, List.singleton_append, List.singleton_append, show (((pa ++ [x]).length : Nat) : Int) = (pa.length : Int) + 1 by simp] at ih
      rw [ih]
      subst hxy
      simp
    · rw [if_neg hxy, decide_eq_false (by simp [hxy])]
theorem same {a b : List Int} (hm : a.length ≤ 9223372036854775806) : Cv (fun k => spec_l2Same.f k a b) (decide (a = b)) := by
  unfold spec_l2Same.f
  by_cases h : (a.length : Int) = (b.length : Int)
  · exact Cv.pos h (Cv.from (m := a.length + 1) (fun k => same_l0 k a b [] [] rfl (by omega) (by simpa using hm)))
  · refine Cv.neg h (Cv.of ?_)
    rw [decide_eq_false (fun e => h (by rw [e]))]
theorem eq_l0 (k : Nat) : ∀ (a b pa pb : List Int), pa.length = pb.length → a.length = b.length → (pa ++ a).length ≤ 9223372036854775806 →
    laws_eqByteS.l0 (k + a.length + 1) (pa ++ a) (pb ++ b) (pa.length : Int) = some (decide (a = b))
  | [], [], pa, pb, hp, hl, hm => by
    unfold laws_eqByteS.l0
    rw [if_neg (by simp)]
    simp
  | [], y :: b, pa, pb, hp, hl, hm => by simp at hl
  | x :: a, [], pa, pb, hp, hl, hm => by simp at hl
  | x :: a, y :: b, pa, pb, hp, hl, hm => by
    have h1 : (pa ++ x :: a).length = pa.length + a.length + 1 := by simp; omega
    have h2 : (pb ++ y :: b).length = pa.length + b.length + 1 := by simp; omega
    rw [show k + (x :: a).length + 1 = (k + a.length + 1) + 1 by simp; omega]
    conv => lhs; unfold laws_eqByteS.l0
    rw [if_pos (by omega), if_pos (by omega), if_pos (by omega), rd_mid]
    have e : rd (pb ++ y :: b) (pa.length : Int) = y := by rw [hp]; exact rd_mid _ _ _
    rw [e]
    by_cases hxy : x = y
    · rw [if_pos hxy, w64 (by omega) (by omega)]
      have ih := eq_l0 k a b (pa ++ [x]) (pb ++ [y]) (by simp [hp]) (by simpa using hl) (by simpa using hm)
      rw [List.append_assoc, List.append_assoc, List.singleton_append, List.singleton_append, show (((pa ++ [x]).length : Nat) : Int) = (pa.length : Int) + 1 by simp] at ih
      rw [ih]
      subst hxy
      simp
    · rw [if_neg hxy, decide_eq_false (by simp [hxy])]
theorem eqB {a b : List Int} (hm : a.length ≤ 9223372036854775806) : Cv (fun k => laws_eqByteS.f k a b) (decide (a = b)) := by
  unfold laws_eqByteS.f
  by_cases h : (a.length : Int) = (b.length : Int)
  · exact Cv.pos h (Cv.from (m := a.length + 1) (fun k => eq_l0 k a b [] [] rfl (by omega) (by simpa using hm)))
  · refine Cv.neg h (Cv.of ?_)
    rw [decide_eq_false (fun e => h (by rw [e]))]
theorem toB_l0 (k : Nat) : ∀ (r pre : List Int), (pre ++ r).length ≤ 9223372036854775806 →
    laws_toByteS.l0 (k + r.length + 1) (pre ++ r) (pre ++ List.replicate r.length 0) (pre.length : Int) = some (pre ++ r)
  | [], pre, hm => by
    unfold laws_toByteS.l0
    rw [if_neg (by simp)]
    simp
  | x :: r, pre, hm => by
    have h1 : (pre ++ x :: r).length = pre.length + r.length + 1 := by simp; omega
    have h2 : (pre ++ List.replicate (x :: r).length (0 : Int)).length = pre.length + r.length + 1 := by simp; omega
    rw [show k + (x :: r).length + 1 = (k + r.length + 1) + 1 by simp; omega]
    conv => lhs; unfold laws_toByteS.l0
    rw [if_pos (by omega), if_pos (by omega), if_pos (by omega), rd_mid, w64 (by omega) (by omega)]
    have e : (pre ++ List.replicate (x :: r).length (0 : Int)).set ((pre.length : Int)).toNat x = (pre ++ [x]) ++ List.replicate r.length 0 := by
      rw [Int.toNat_natCast, List.set_append_right _ _ (Nat.le_refl _), Nat.sub_self, List.length_cons, List.replicate_succ, List.set_cons_zero, List.append_assoc, List.singleton_append]
    rw [e]
    have ih := toB_l0 k r (pre ++ [x]) (by simpa using hm)
    rw [List.append_assoc, List.singleton_append, show (((pre ++ [x]).length : Nat) : Int) = (pre.length : Int) + 1 by simp] at ih
    rw [ih]
theorem toB {l : List Int} (hm : l.length ≤ 281474976710656) : Cv (fun k => laws_toByteS.f k l) l := by
  unfold laws_toByteS.f
  refine Cv.pos (by omega) (Cv.pos (by omega) (Cv.from (m := l.length + 1) (fun k => ?_)))
  have h := toB_l0 k l [] (by simp; omega)
  simpa [← Nat.add_assoc] using h
def marks : Nat → Int → List Int
  | 0, _ => []
  | n + 1, m => (m % 256) :: marks n (m + 1)
theorem marks_length : ∀ (n : Nat) (m : Int), (marks n m).length = n
  | 0, _ => rfl
  | n + 1, m => by simp [marks, marks_length n]
theorem mark_l0 (k : Nat) : ∀ (r pre : List Int) (m : Int), 0 ≤ m → m + r.length ≤ 9223372036854775806 → (pre ++ r).length ≤ 9223372036854775806 →
    laws_markByteS.l0 (k + r.length + 1) (pre ++ r) m (pre.length : Int) = some (m + r.length, pre ++ marks r.length m)
  | [], pre, m, h0, h1, hm => by
    unfold laws_markByteS.l0
    rw [if_neg (by simp)]
    simp [marks]
  | x :: r, pre, m, h0, h1, hm => by
    have h2 : (pre ++ x :: r).length = pre.length + r.length + 1 := by simp; omega
    have h3 : (x :: r).length = r.length + 1 := rfl
    rw [show k + (x :: r).length + 1 = (k + r.length + 1) + 1 by simp; omega]
    conv => lhs; unfold laws_markByteS.l0
    rw [if_pos (by omega), if_pos (by omega), w64 (n := m + 1) (by omega) (by omega), w64 (by omega) (by omega)]
    have e : (pre ++ x :: r).set ((pre.length : Int)).toNat (m % 256) = (pre ++ [m % 256]) ++ r := by
      rw [Int.toNat_natCast, List.set_append_right _ _ (Nat.le_refl _), Nat.sub_self, List.set_cons_zero, List.append_assoc, List.singleton_append]
    rw [e]
    have ih := mark_l0 k r (pre ++ [m % 256]) (m + 1) (by omega) (by omega) (by simpa using hm)
    rw [show (((pre ++ [m % 256]).length : Nat) : Int) = (pre.length : Int) + 1 by simp] at ih
    rw [ih, List.append_assoc, List.singleton_append]
    simp only [marks, List.length_cons]
    congr 2
    omega
theorem toList_loop (bs : ByteArray) : ∀ (n i : Nat) (r : List UInt8), i + n = bs.size → ByteArray.toList.loop bs i r = r.reverse ++ bs.data.toList.drop i
  | 0, i, r, h => by
    unfold ByteArray.toList.loop
    rw [if_neg (by omega), List.drop_eq_nil_of_le (by rw [Array.length_toList]; show bs.size ≤ i; omega), List.append_nil]
  | n + 1, i, r, h => by
    unfold ByteArray.toList.loop
    rw [if_pos (by omega), toList_loop bs n (i + 1) _ (by omega)]
    have hi : i < bs.data.toList.length := by rw [Array.length_toList]; show i < bs.size; omega
    rw [List.drop_eq_getElem_cons hi, List.reverse_cons, List.append_assoc, List.singleton_append]
    congr 2
    have hs : i < bs.data.size := by simpa using hi
    show bs.data[i]! = _
    rw [getElem!_pos bs.data i hs]
    simp
theorem toList_data (bs : ByteArray) : bs.toList = bs.data.toList := by
  unfold ByteArray.toList
  rw [toList_loop bs bs.size 0 [] (by omega)]
  simp
theorem str_eq {a b : List Int} (ha : By a) (hb : By b) : ((strOfNums a).toList == (strOfNums b).toList) = decide (a = b) := by
  rw [toList_data, toList_data, strOfNums_data, strOfNums_data]
  by_cases h : a = b
  · subst h
    simp
  · rw [decide_eq_false h]
    refine beq_eq_false_iff_ne.mpr (fun e => h (bytesOf_inj ha hb e))

/-! ### reading -/
def sizeOf2 (l : List Int) : Int := rd l 10 + 256 * rd l 11
def bodyOf (l : List Int) : List Int := (l.take (16 + sizeOf2 l).toNat).drop 16
/-- What DecodePage gives. -/
def decV (id : Int) (l : List Int) : Int × List Int × Bool :=
  if l.length = 256 ∧ sizeOf2 l ≤ 240 ∧ 0 ≤ id ∧ id ≤ 1023 ∧ 1 ≤ rd l 8 ∧ rd l 8 ≤ 4 ∧ pageOf id.toNat (rd l 8).toNat (bodyOf l) = l then (rd l 8, bodyOf l, true) else (0, [], false)
theorem decV_pos {id : Int} {l : List Int} (h : l.length = 256 ∧ sizeOf2 l ≤ 240 ∧ 0 ≤ id ∧ id ≤ 1023 ∧ 1 ≤ rd l 8 ∧ rd l 8 ≤ 4 ∧ pageOf id.toNat (rd l 8).toNat (bodyOf l) = l) : decV id l = (rd l 8, bodyOf l, true) := if_pos h
theorem decV_neg {id : Int} {l : List Int} (h : ¬ (l.length = 256 ∧ sizeOf2 l ≤ 240 ∧ 0 ≤ id ∧ id ≤ 1023 ∧ 1 ≤ rd l 8 ∧ rd l 8 ≤ 4 ∧ pageOf id.toNat (rd l 8).toNat (bodyOf l) = l)) : decV id l = (0, [], false) := if_neg h
theorem mid2 {l : List Int} (h : l.length = 256) : (l.take 12).drop 10 = [rd l 10, rd l 11] := by
  apply List.ext_getElem
  · simp [h]
  · intro i h1 h2
    have hi : i < 2 := by simpa using h2
    simp only [List.getElem_drop, List.getElem_take]
    rcases i with _ | _ | i
    · simp [rd, List.getD_eq_getElem?_getD, h]
    · simp [rd, List.getD_eq_getElem?_getD, h]
    · omega
theorem bodyOf_length {l : List Int} (h : l.length = 256) (h0 : 0 ≤ sizeOf2 l) (h1 : sizeOf2 l ≤ 240) : (((bodyOf l).length : Nat) : Int) = sizeOf2 l := by
  unfold bodyOf
  rw [List.length_drop, List.length_take, h]
  omega
theorem spec_dec {id : Int} {l : List Int} (hb : By l) : Cv (fun k => spec_DecodePage.f k id l) (decV id l) := by
  unfold spec_DecodePage.f
  refine Cv.bind (Cv.of rfl) ?_
  by_cases hl : (l.length : Int) = 256
  case neg =>
    rw [decV_neg (fun h => hl (by omega))]
    exact Cv.neg hl (Cv.of rfl)
  have hl' : l.length = 256 := by omega
  have b8 := By_rd hb 8
  have b10 := By_rd hb 10
  have b11 := By_rd hb 11
  refine Cv.pos hl (Cv.pos (by decide) (Cv.pos (by omega) ?_))
  rw [mid2 hl']
  refine Cv.bind (low2 b10 b11) ?_
  rw [show rd l 10 + 256 * rd l 11 = sizeOf2 l from rfl]
  have hs0 : 0 ≤ sizeOf2 l := by unfold sizeOf2; omega
  by_cases hs : sizeOf2 l > 240
  · rw [decV_neg (fun h => by omega)]
    exact Cv.pos hs (Cv.of rfl)
  refine Cv.neg hs (Cv.pos (by omega) ?_)
  rw [w64 (n := 16 + sizeOf2 l) (by omega) (by omega), w64 (n := rd l 8) (by omega) (by omega)]
  refine Cv.pos (by omega) (Cv.pos (by omega) ?_)
  rw [show (l.take (16 + sizeOf2 l).toNat).drop 16 = bodyOf l from rfl]
  have hbb : By (bodyOf l) := (hb.take _).drop _
  have hbl := bodyOf_length hl' hs0 (by omega)
  refine Cv.bind (spec_enc hbb) ?_
  unfold encV
  by_cases hok : okPage id (rd l 8) (bodyOf l).length
  · rw [if_pos hok]
    unfold okPage at hok
    refine Cv.pos rfl (Cv.bind (same (by rw [pageOf_length _ _ (by omega)]; decide)) ?_)
    by_cases he : pageOf id.toNat (rd l 8).toNat (bodyOf l) = l
    · rw [decV_pos ⟨hl', by omega, by omega, by omega, by omega, by omega, he⟩]
      refine Cv.pos (decide_eq_true he) (Cv.bind (v := bodyOf l) (Cv.of ?_) (Cv.of rfl))
      unfold spec_l1Bytes.f
      rw [Option.bind_some, if_pos (by simp; omega)]
      rfl
    · rw [decV_neg (fun h => he h.2.2.2.2.2.2)]
      exact Cv.neg (fun e => he (of_decide_eq_true e)) (Cv.of rfl)
  · rw [if_neg hok, decV_neg]
    · exact Cv.neg (by decide) (Cv.of rfl)
    · unfold okPage at hok
      intro h
      omega
end Go.Proofs.Ytlopmffdebhpfaa.Pure

/-! ## Mark -/
namespace Go.Proofs.Ytlopmffdebhpfaa.G
open Go.RowKit Go.Proofs.YtlopmffdebhpfaaW.PrintWords Go.Proofs.YtlopmffdebhpfaaW.PrintLast Go.Proofs.YtlopmffdebhpfaaW.PrintMore
open Go.Proofs.Ytlopmffdebhpfaa.Pure (marks marks_length mark_l0 Cv)
set_option linter.unusedVariables false
set_option linter.unusedSimpArgs false
/-- The numbers in rows. -/
def totL : List (List Int) → Nat
  | [] => 0
  | l :: r => l.length + totL r
def mkSS : List (List Int) → Int → List (List Int)
  | [], _ => []
  | l :: r, m => marks l.length m :: mkSS r (m + l.length)
theorem totL_snoc : ∀ (a : List (List Int)) (l : List Int), totL (a ++ [l]) = totL a + l.length
  | [], l => by simp [totL]
  | x :: a, l => by
    have := totL_snoc a l
    simp only [List.cons_append, totL, this]
    omega
theorem mkSS_length : ∀ (a : List (List Int)) (m : Int), (mkSS a m).length = a.length
  | [], _ => rfl
  | x :: a, m => by simp [mkSS, mkSS_length a]
theorem mkSS_snoc : ∀ (a : List (List Int)) (l : List Int) (m : Int), mkSS (a ++ [l]) m = mkSS a m ++ [marks l.length (m + totL a)]
  | [], l, m => by simp [mkSS, totL]
  | x :: a, l, m => by
    simp only [List.cons_append, mkSS, mkSS_snoc a l, totL]
    congr 4
    omega
theorem totL_take_le (ls : List (List Int)) (n : Nat) : totL (ls.take n) ≤ totL ls := by
  induction ls generalizing n with
  | nil => simp
  | cons l r ih =>
    cases n with
    | zero => simp [totL]
    | succ n => simp only [List.take_succ_cons, totL]; have := ih n; omega
theorem take_snoc_getD {α : Type} (ls : List α) (z : α) (n : Nat) (h : n < ls.length) : ls.take (n + 1) = ls.take n ++ [ls.getD n z] := by
  rw [List.take_add_one, List.getElem?_eq_getElem h, List.getD_eq_getElem?_getD, List.getElem?_eq_getElem h]
  rfl
theorem cur_getD {α : Type} (a ls : List α) (z : α) (n : Nat) (ha : a.length = n) : (a ++ ls.drop n).getD n z = ls.getD n z := by
  rw [List.getD_eq_getElem?_getD, List.getElem?_append_right (by omega), List.getElem?_drop, List.getD_eq_getElem?_getD]
  congr 2
  omega
theorem cur_set {α : Type} (a ls : List α) (x : α) (n : Nat) (ha : a.length = n) (h : n < ls.length) : (a ++ ls.drop n).set n x = (a ++ [x]) ++ ls.drop (n + 1) := by
  rw [List.set_append_right _ _ (by omega), show n - a.length = 0 by omega, List.drop_eq_getElem_cons h, List.set_cons_zero, List.append_assoc, List.singleton_append]
theorem keptTrans {w W W2 : World} {P S : Nat → Prop} (h : Kept w W P) (h2 : Kept W W2 S) (hs : ∀ k, S k → P k) : Kept w W2 P :=
  ⟨Nat.le_trans h.1 h2.1, fun i hi hn => (h2.2 i (Nat.lt_of_lt_of_le hi h.1) (fun hk => hn (hs i hk))).trans (h.2 i hi hn)⟩
theorem markB_at {l : List Int} {m : Int} (h0 : 0 ≤ m) (h1 : m + l.length ≤ 9223372036854775806) : ∃ k, laws_markByteS.f k l m = some (m + l.length, marks l.length m) := by
  refine ⟨0 + l.length + 1, ?_⟩
  have h := mark_l0 0 l [] m h0 h1 (by simp; omega)
  unfold laws_markByteS.f
  exact h
set_option maxHeartbeats 4000000 in
set_option maxRecDepth 100000 in
theorem laws_markByteSS.calls (P : Nat → Prop) (v : Value) (ls : List (List Int)) (m : Int) (w0 w : World) (hB : Below w0.heap.size w0 w) (ho : Kd.S (Kd.slice 5 (Kd.int .u8)) 22 w w0.heap.size P v ls) (h0 : 0 ≤ m) (h1 : m + totL ls ≤ 4611686018427387904) :
    Calls Try.prog 93 #[v, .int .i64 m] w fun e w' => e = .returned (.int .i64 (m + totL ls)) ∧ Kd.S (Kd.slice 5 (Kd.int .u8)) 22 w' w0.heap.size P v (mkSS ls m) ∧ Below w0.heap.size w0 w' ∧ Kept w w' P := by
  obtain ⟨A, c, rfl⟩ := Kd.S_slice ho
  have HX : Aside0 (ls.length ≤ 9223372036854775807) := ⟨(Kd.S_reads' ho).2.2.2.1⟩
  have HS0 := Aside0.mk ho
  have HB0 := Aside0.mk hB
  have HM0 := Aside0.mk h0
  have HM1 := Aside0.mk h1
  clear ho hB h0 h1
  go_enter Try.func93, Try.ntmps93
  go_wp2_with fail
  go_loopg [1, 5] ls.length (fun gk v1 v5 w' => ∃ x : Int, v1 = .int .i64 (m + totL (ls.take x.toNat)) ∧ v5 = .int .i64 x ∧ Aside0 (0 ≤ x ∧ (gk : Int) + x = (ls.length : Int)) ∧ Aside0 (Kd.S (Kd.slice 5 (Kd.int .u8)) 22 w' w0.heap.size P (.slice A ls.length c) (mkSS (ls.take x.toNat) m ++ ls.drop x.toNat)) ∧ Aside0 (Below w0.heap.size w0 w') ∧ Aside0 (Kept w w' P))
  case atStart =>
    exact ⟨0, by simp [totL], rfl, ⟨by omega⟩, ⟨by simpa [mkSS] using HS0.out⟩, HB0, ⟨Kept.refl _ _⟩⟩
  case round =>
    clear HS0 HB0
    obtain ⟨x, rfl, rfl, HXK, HS, HB, HK⟩ := hrel
    cases gk with
    | zero =>
      have hx : x = (ls.length : Int) := by have := HXK.out; omega
      subst hx
      have c4b0 : decide ((ls.length : Int) < (ls.length : Int)) = false := decide_eq_false (by omega)
      have HS2 := HS.out
      rw [Int.toNat_natCast, List.take_length, List.drop_length, List.append_nil] at HS2
      go_wp2_with fail
      go_ret
      exact ⟨by first | rfl | (rw [Int.toNat_natCast, List.take_length]; rfl), HS2, HB.out, HK.out⟩
    | succ gk =>
      have p0 : 0 ≤ x := HXK.out.1
      have q0 : x < (ls.length : Int) := by have := HXK.out; omega
      have HP0 := Aside0.mk p0
      have HQ0 := Aside0.mk q0
      have hxl : x.toNat < ls.length := by omega
      have hml : (mkSS (ls.take x.toNat) m).length = x.toNat := by rw [mkSS_length, List.length_take]; omega
      have hpos : 0 < (mkSS (ls.take x.toNat) m ++ ls.drop x.toNat).length := by simp [mkSS_length]; omega
      obtain ⟨g, cap, ev, _⟩ := Kd.S_form HS.out hpos
      injection ev with ev1 ev2 ev3
      subst ev1
      subst ev3
      obtain ⟨oki, cc, _, hM, hcc, hoki, hH⟩ := Kd.S_lend HS.out ([] : List Int) x p0 q0
      obtain ⟨vi, rfl, hRi⟩ := hM
      rw [cur_getD _ _ _ _ hml] at hRi
      have hcell := hcc 0 vi rfl
      rw [show (Kd.slice 5 (Kd.int .u8)).sz = 1 from rfl, Nat.mul_one, Nat.add_zero] at hcell
      clear hcc
      have htot : totL (ls.take (x.toNat + 1)) = totL (ls.take x.toNat) + (ls.getD x.toNat []).length := by rw [take_snoc_getD ls [] _ hxl, totL_snoc]
      have hle := totL_take_le ls (x.toNat + 1)
      obtain ⟨k, hf⟩ := markB_at (l := ls.getD x.toNat []) (m := m + totL (ls.take x.toNat)) (by have := HM0.out; omega) (by have := HM1.out; omega)
      have hsn := take_snoc_getD ls [] _ hxl
      generalize ls.getD x.toNat [] = li at hRi htot hf hsn
      have HSN := Aside0.mk hsn
      have HF := Aside0.mk hf
      have HRI := Aside0.mk hRi
      have HH := Aside0.mk hH
      have HOK := Aside0.mk hoki
      have HTOT := Aside0.mk htot
      have HML := Aside0.mk hml
      have HXL := Aside0.mk hxl
      clear hsn hf hRi hH hoki htot hle hml hxl hpos ev2 HS
      have c4b0 : decide (x < (ls.length : Int)) = true := decide_eq_true q0
      have c4b1 : decide (0 ≤ x) = true := decide_eq_true p0
      replace p0 := eq_true p0
      replace q0 := eq_true q0
      go_wp2_with fail
      refine (laws_markByteS.calls k (fun k_ => some k_ = vi.ownBlock) vi li (m + totL (ls.take x.toNat)) _ _ w0 _ HB.out (Kd.R_tight rfl HRI.out) HF.out).mono ?_
      rintro e w2 ⟨rfl, hy, hb, hkp⟩
      have HS2 := Kd.H_back (Kd.H_step HH.out (fun k_ hk hn hlt => hkp.2 k_ hlt (fun e => hn (HRI.out.1 k_ e.symm)))) (x' := marks li.length (m + totL (ls.take x.toNat))) ⟨vi, rfl, Kd.R_reok rfl hy (fun k_ e_ => HRI.out.1 k_ e_)⟩ (fun _ hk => hk)
      rw [cur_set _ _ _ _ HML.out HXL.out] at HS2
      have HS3 := Aside0.mk HS2
      have HB3 := Aside0.mk hb
      have HK3 := Aside0.mk (keptTrans HK.out hkp (fun k_ hk => (HOK.out k_ (HRI.out.1 k_ hk.symm)).1))
      clear hy hb hkp HS2 HB HK HH HRI
      go_wp2_with fail
      go_roundg gk
      case measure => omega
      case rel =>
        have hw1 : wrap64 (x + 1) = x + 1 := by have := HP0.out; have := HQ0.out; have := HX.out; unfold wrap64; omega
        have ht1 : (x + 1).toNat = x.toNat + 1 := by have := HP0.out; omega
        refine ⟨x + 1, ?_, by first | rfl | (rw [hw1]), ⟨by have := HXK.out; omega⟩, ⟨?_⟩, HB3, HK3⟩
        · rw [ht1, HTOT.out]
          congr 1
          omega
        · rw [ht1, HSN.out, mkSS_snoc]
          exact HS3.out
def totP : List S185 → Nat
  | [] => 0
  | p :: r => (1 + p.f1.length) + totP r
def mkPS : List S185 → Int → List S185
  | [], _ => []
  | p :: r, m => ⟨m, marks p.f1.length (m + 1)⟩ :: mkPS r (m + ((1 + p.f1.length : Nat) : Int))
theorem totP_snoc : ∀ (a : List S185) (l : S185), totP (a ++ [l]) = totP a + (1 + l.f1.length)
  | [], l => by simp [totP]
  | x :: a, l => by
    have := totP_snoc a l
    simp only [List.cons_append, totP, this]
    omega
theorem mkPS_length : ∀ (a : List S185) (m : Int), (mkPS a m).length = a.length
  | [], _ => rfl
  | x :: a, m => by simp [mkPS, mkPS_length a]
theorem mkPS_snoc : ∀ (a : List S185) (l : S185) (m : Int), mkPS (a ++ [l]) m = mkPS a m ++ [⟨m + totP a, marks l.f1.length (m + totP a + 1)⟩]
  | [], l, m => by simp [mkPS, totP]
  | x :: a, l, m => by
    simp only [List.cons_append, mkPS, mkPS_snoc a l, totP]
    have e : m + ((1 + x.f1.length : Nat) : Int) + (totP a : Int) = m + (((1 + x.f1.length) + totP a : Nat) : Int) := by omega
    rw [e]
theorem totP_take_le (ls : List S185) (n : Nat) : totP (ls.take n) ≤ totP ls := by
  induction ls generalizing n with
  | nil => simp
  | cons l r ih =>
    cases n with
    | zero => simp [totP]
    | succ n => simp only [List.take_succ_cons, totP]; have := ih n; omega
set_option maxHeartbeats 4000000 in
set_option maxRecDepth 100000 in
theorem laws_markPendS.calls (P : Nat → Prop) (v : Value) (ls : List S185) (m : Int) (w0 w : World) (hB : Below w0.heap.size w0 w) (ho : Kd.S k185 185 w w0.heap.size P v ls) (h0 : 0 ≤ m) (h1 : m + totP ls ≤ 4611686018427387904) :
    Calls Try.prog 94 #[v, .int .i64 m] w fun e w' => e = .returned (.int .i64 (m + totP ls)) ∧ Kd.S k185 185 w' w0.heap.size P v (mkPS ls m) ∧ Below w0.heap.size w0 w' ∧ Kept w w' P := by
  have hu185 := Try.underlying185
  obtain ⟨A, c, rfl⟩ := Kd.S_slice ho
  have HX : Aside0 (ls.length ≤ 9223372036854775807) := ⟨(Kd.S_reads' ho).2.2.2.1⟩
  have HS0 := Aside0.mk ho
  have HB0 := Aside0.mk hB
  have HM0 := Aside0.mk h0
  have HM1 := Aside0.mk h1
  clear ho hB h0 h1
  go_enter Try.func94, Try.ntmps94
  go_wp2_with fail
  go_loopg [1, 5] ls.length (fun gk v1 v5 w' => ∃ x : Int, v1 = .int .i64 (m + totP (ls.take x.toNat)) ∧ v5 = .int .i64 x ∧ Aside0 (0 ≤ x ∧ (gk : Int) + x = (ls.length : Int)) ∧ Aside0 (Kd.S k185 185 w' w0.heap.size P (.slice A ls.length c) (mkPS (ls.take x.toNat) m ++ ls.drop x.toNat)) ∧ Aside0 (Below w0.heap.size w0 w') ∧ Aside0 (Kept w w' P))
  case atStart =>
    exact ⟨0, by simp [totP], rfl, ⟨by omega⟩, ⟨by simpa [mkPS] using HS0.out⟩, HB0, ⟨Kept.refl _ _⟩⟩
  case round =>
    clear HS0 HB0
    obtain ⟨x, rfl, rfl, HXK, HS, HB, HK⟩ := hrel
    cases gk with
    | zero =>
      have hx : x = (ls.length : Int) := by have := HXK.out; omega
      subst hx
      have c4b0 : decide ((ls.length : Int) < (ls.length : Int)) = false := decide_eq_false (by omega)
      have HS2 := HS.out
      rw [Int.toNat_natCast, List.take_length, List.drop_length, List.append_nil] at HS2
      go_wp2_with fail
      go_ret
      exact ⟨by first | rfl | (rw [Int.toNat_natCast, List.take_length]; rfl), HS2, HB.out, HK.out⟩
    | succ gk =>
      have p0 : 0 ≤ x := HXK.out.1
      have q0 : x < (ls.length : Int) := by have := HXK.out; omega
      have HP0 := Aside0.mk p0
      have HQ0 := Aside0.mk q0
      have hxl : x.toNat < ls.length := by omega
      have hml : (mkPS (ls.take x.toNat) m).length = x.toNat := by rw [mkPS_length, List.length_take]; omega
      have hpos : 0 < (mkPS (ls.take x.toNat) m ++ ls.drop x.toNat).length := by simp [mkPS_length]; omega
      obtain ⟨g, cap, ev, _⟩ := Kd.S_form HS.out hpos
      injection ev with ev1 ev2 ev3
      subst ev1
      subst ev3
      have HPG : Aside0 (P g) := ⟨(Kd.S_R HS.out).1 g (by simp [Value.ownBlock])⟩
      have HGW : Aside0 (w0.heap.size ≤ g) := ⟨Kd.S_base HS.out g (by simp [Value.ownBlock])⟩
      obtain ⟨oki, cc, _, hM, hcc, hoki, hH⟩ := Kd.S_lend HS.out z185 x p0 q0
      rw [cur_getD _ _ _ _ hml] at hM
      obtain ⟨vi, rfl, hRi⟩ := k185_openM hM
      have hcell0 := hcc 0 _ rfl
      have hfr0 : wr.frozen? ⟨g, x.toNat * 2, none⟩ = false := by
        obtain ⟨_, _, _, _, hfr⟩ := Kd.R_elem (Kd.S_R HS.out) z185 x p0 q0
        have := hfr 0
        simpa [show k185.sz = 2 from rfl] using this
      rw [show k185.sz = 2 from rfl, Nat.add_zero] at hcell0
      clear hcc
      have htot : totP (ls.take (x.toNat + 1)) = totP (ls.take x.toNat) + (1 + (ls.getD x.toNat z185).f1.length) := by rw [take_snoc_getD ls z185 _ hxl, totP_snoc]
      have hle := totP_take_le ls (x.toNat + 1)
      have hsn := take_snoc_getD ls z185 _ hxl
      generalize ls.getD x.toNat z185 = li at hRi htot hsn hcell0 hM hH
      obtain ⟨k, hf⟩ := markB_at (l := li.f1) (m := m + totP (ls.take x.toNat) + 1) (by have := HM0.out; omega) (by have := HM1.out; omega)
      have hcs := cur_set (mkPS (ls.take x.toNat) m) ls (⟨m + totP (ls.take x.toNat), li.f1⟩ : S185) x.toNat hml hxl
      have HWR : Aside0 (wrap64 (m + totP (ls.take x.toNat) + 1) = m + totP (ls.take x.toNat) + 1) := ⟨by have := HM0.out; have := HM1.out; unfold wrap64; omega⟩
      have HSN := Aside0.mk hsn
      have HF := Aside0.mk hf
      have HRI := Aside0.mk hRi
      have HH := Aside0.mk hH
      have HOK := Aside0.mk hoki
      have HTOT := Aside0.mk htot
      have HML := Aside0.mk hml
      have HXL := Aside0.mk hxl
      have HCS := Aside0.mk hcs
      clear hcs hsn hf hRi hH hoki htot hle hml hxl hpos ev2 HS hM
      have c4b0 : decide (x < (ls.length : Int)) = true := decide_eq_true q0
      have c4b1 : decide (0 ≤ x) = true := decide_eq_true p0
      replace p0 := eq_true p0
      replace q0 := eq_true q0
      generalize hmm : m + (totP (ls.take x.toNat) : Int) = mm at HF HWR HCS ⊢
      have HMM := Aside0.mk hmm
      clear hmm
      go_wp2_with (first | ((with_reducible refine gate_ (.store 3 (.tmp 16) (.tmp 14)) rfl ?_); refine Kd.H_store k185 w0.heap.size rfl rfl 3 (.tmp 16) (.tmp 14) rfl 185 x 0 (mkPS (ls.take x.toNat) m ++ ls.drop x.toNat) (⟨mm, li.f1⟩ : S185) (.int .i64 mm) [.int .i64 mm] [.int .i64 li.f0, vi] P oki oki rfl rfl rfl rfl (by kernel_rfl) (by simp [Value.oneCell']) HH.out HP0.out HQ0.out (Nat.le_of_ble_eq_true rfl) (k185_mkM _ _ _ _ HRI.out) (fun _ h => h) HB.out ?_; intro w1 hs1 hb1 hg1; rw [HCS.out] at hs1; have HS1 := Aside0.mk hs1; have HB1 := Aside0.mk hb1; have HK1 := Aside0.mk (keptTrans HK.out (Kept.of_grown hg1 (Kept.refl _ (fun k_ => k_ = g)) (fun k_ e_ => .inl (Option.some.inj e_).symm)) (fun k_ e_ => by rw [e_]; exact HPG.out)); clear hs1 hb1 hg1; obtain ⟨oki2, cc2, hcl2, hM2, hcc2, hoki2, hH2⟩ := Kd.S_lend HS1.out z185 x HP0.out HQ0.out; have hM3 := hM2; rw [show ((mkPS (ls.take x.toNat) m ++ [(⟨mm, li.f1⟩ : S185)]) ++ ls.drop (x.toNat + 1)).getD x.toNat z185 = ⟨mm, li.f1⟩ from by { rw [List.append_assoc, List.getD_eq_getElem?_getD, List.getElem?_append_right (Nat.le_of_eq HML.out), HML.out, Nat.sub_self]; rfl }] at hM3; obtain ⟨vj, ecc, hRj⟩ := k185_openM hM3; subst ecc; have hcell1 := hcc2 1 _ rfl; rw [show k185.sz = 2 from rfl] at hcell1; have HRJ := Aside0.mk hRj; have HH2 := Aside0.mk hH2; have HOK2 := Aside0.mk hoki2; clear hcl2 hM2 hcc2 hoki2 hH2 hM3 hRj))
      have hwr2 := HWR.out
      (try rw [hwr2])
      with_reducible refine (laws_markByteS.calls k (fun k_ => some k_ = vj.ownBlock) vj li.f1 (mm + 1) _ _ w0 _ HB1.out (Kd.R_tight rfl HRJ.out) HF.out).mono ?_
      rintro e w2 ⟨rfl, hy, hb, hkp⟩
      have HS2 := Kd.H_back (Kd.H_step HH2.out (fun k_ hk hn hlt => hkp.2 k_ hlt (fun e => hn (HRJ.out.1 k_ e.symm)))) (x' := (⟨mm, marks li.f1.length (mm + 1)⟩ : S185)) (k185_mkM _ _ _ _ (Kd.R_reok rfl hy (fun k_ e_ => HRJ.out.1 k_ e_))) (fun _ hk => hk)
      rw [List.append_assoc, List.set_append_right _ _ (Nat.le_of_eq HML.out), HML.out, Nat.sub_self, List.singleton_append, List.set_cons_zero] at HS2
      have HS3 := Aside0.mk HS2
      have HB3 := Aside0.mk hb
      have HK3 := Aside0.mk (keptTrans HK1.out hkp (fun k_ hk => (HOK2.out k_ (HRJ.out.1 k_ hk.symm)).1))
      clear hy hb hkp HS2 HB HK HH HRI HRJ HH2 HB1 HK1 HS1
      go_wp2_with fail
      go_roundg gk
      case measure => omega
      case rel =>
        have hw1 : wrap64 (x + 1) = x + 1 := by have := HP0.out; have := HQ0.out; have := HX.out; unfold wrap64; omega
        have ht1 : (x + 1).toNat = x.toNat + 1 := by have := HP0.out; omega
        refine ⟨x + 1, ?_, by first | rfl | (rw [hw1]), ⟨by have := HXK.out; omega⟩, ⟨?_⟩, HB3, HK3⟩
        · rw [ht1, HTOT.out, ← HMM.out]
          congr 1
          omega
        · rw [ht1, HSN.out, mkPS_snoc, HMM.out, List.append_assoc]
          exact HS3.out
end Go.Proofs.Ytlopmffdebhpfaa.G

/-! ## G85 -/
namespace Go.Proofs.Ytlopmffdebhpfaa.G
open Go.RowKit Go.Proofs.YtlopmffdebhpfaaW.PrintWords Go.Proofs.YtlopmffdebhpfaaW.PrintLast Go.Proofs.YtlopmffdebhpfaaW.PrintMore
attribute [local go_sem] max2_int min2_int max_two min_two max_three min_three max_four min_four
set_option linter.unusedVariables false
set_option linter.unusedSimpArgs false

/-! ### laws_toByteSS: function 85 -/
def laws_toByteSS.l0 : Nat → List (List Int) → List (List Int) → Int → Option ((List (List Int)))
  | 0, _, _, _ => none
  | k + 1, x0, x3, x4 => if x4 < (x0.length : Int) then (if 0 ≤ x4 then ((laws_toByteS.f k (rd_L2 x0 x4)).bind fun t373 => (if x4 < (x3.length : Int) then (laws_toByteSS.l0 k x0 (x3.set (x4 : Int).toNat t373) (wrap64 (x4 + 1))) else (none))) else (none)) else (some x3)
def laws_toByteSS.f (k : Nat) (l0 : List (List Int)) : Option ((List (List Int))) := if 0 ≤ (l0.length : Int) then (if ((l0.length : Int) : Int).toNat ≤ 11728124029610 then (laws_toByteSS.l0 k l0 (List.replicate ((l0.length : Int) : Int).toNat []) 0) else (none)) else (none)
set_option maxHeartbeats 8000000 in
set_option maxRecDepth 100000 in
theorem laws_toByteSS.calls (k : Nat) (A0 : Option Addr) (c0 : Nat) (l0 : List (List Int)) (r : List (List Int)) (w : World) (hr0 : Kd.C (Kd.slice 5 (Kd.int .u8)) w A0 l0.length l0) (hc0 : l0.length ≤ c0) (h : laws_toByteSS.f k l0 = some r) :
    Calls Try.prog 85 #[.slice A0 l0.length c0] w fun e w' => ∃ v0_ : Value, e = .returned (v0_) ∧ Kd.S (Kd.slice 5 (Kd.int .u8)) 22 w' w.heap.size (fun _ => True) v0_ r ∧ Below w.heap.size w w' := by
  have HR0 := Aside0.mk hr0
  have HC0 := Aside0.mk hc0
  clear hr0 hc0
  have HB := Aside0.mk (Below.refl w.heap.size w)
  have H : (if 0 ≤ (l0.length : Int) then (if ((l0.length : Int) : Int).toNat ≤ 11728124029610 then (laws_toByteSS.l0 k l0 (List.replicate ((l0.length : Int) : Int).toNat []) 0) else (none)) else (none)) = some r := h
  clear h
  by_cases c2 : 0 ≤ (l0.length : Int)
  · rw [if_pos c2] at H
    have c2b0 := eq_true c2
    have c2b1 : decide (0 ≤ (l0.length : Int)) = true := decide_eq_true c2
    clear c2
    by_cases c3 : ((l0.length : Int) : Int).toNat ≤ 11728124029610
    · rw [if_pos c3] at H
      have c3b0 := eq_true c3
      have c3b1 : decide (((l0.length : Int) : Int).toNat ≤ 11728124029610) = true := decide_eq_true c3
      clear c3
      obtain ⟨y369, hy369⟩ : ∃ y_ : List (List Int), y_ = (List.replicate ((l0.length : Int) : Int).toNat []) := ⟨_, rfl⟩
      replace H : (laws_toByteSS.l0 k l0 y369 0) = some r := by first | (rw [hy369]; with_reducible exact H) | (have H2_ := (Option.bind_some _ _).symm.trans H; rw [hy369]; with_reducible exact H2_) | (have H2_ := (Option.bind_some _ _).symm.trans H; with_reducible exact H2_) | with_reducible exact H | (rw [hy369]; exact H) | exact H
      have Ny369 := Aside0.mk hy369
      clear hy369
      have H' := Aside0.mk H
      clear H
      go_enter Try.func85, Try.ntmps85
      go_wp2_with (first | ((with_reducible refine gate_dst (N := 7) rfl ?_); refine Kd.S_make (Kd.slice 5 (Kd.int .u8)) _ 22 rfl (N := 7) rfl 36 _ _ rfl (l0.length : Int) rfl rfl Try.underlying36 (.slice none 0 0) 24 info22 rfl (by decide) (by omega) [] (ok := fun _ => True) (okp := fun _ => True) ⟨_, rfl, Kd.R_nil _ _ _ _ _⟩ (fun _ hk => hk) trivial (of_decide_eq_true (by first | (with_reducible assumption) | assumption)) (Nat.le_trans (Nat.mul_le_mul_right _ (of_decide_eq_true (by first | (with_reducible assumption) | assumption) : (l0.length : Int).toNat ≤ 11728124029610)) (by omega)) (Below.refl _ _) (Nat.le_refl _) ?_; intro v370 w4 ho5 hb hg_ hnew_; clear hg_ hnew_; (first | rw [← Ny369.out] at ho5 | (simp only [Int.reduceToNat] at ho5; rw [← Ny369.out] at ho5)); have n0_ := Aside0.mk (Kd.S_lower ho5 (below_size (by repeat (first | (with_reducible first | exact HB.out | apply below_alloc | apply pw_below_drewN | apply below_drew1) | exact HB.out)))); have n1_ := Aside0.mk (below_step (by repeat (first | (with_reducible first | exact HB.out | apply below_alloc | apply pw_below_drewN | apply below_drew1) | exact HB.out)) hb); clear HB; have HO371 := n0_; have HB := n1_; clear n0_ n1_; clear hb ho5))
      go_loopg [4] k (fun kq v4 w' => ∃ (x3_1 : List (List Int)) (x4_1 : Int), v4 = .int .i64 x4_1 ∧ Aside0 (laws_toByteSS.l0 kq l0 x3_1 x4_1 = some r) ∧ Aside0 (kq ≤ k) ∧ Aside0 (Kd.S (Kd.slice 5 (Kd.int .u8)) 22 w' w.heap.size (fun _ => True) v370 x3_1) ∧ Aside0 (Below w.heap.size w w'))
      case atStart => exact ⟨(y369), (0), (by first | rfl | (simp; done) | (simp [*]; done)), H', ⟨Nat.le_refl _⟩, ⟨by (with_reducible repeat (first | apply Kd.S_alloc | apply Kd.S_drewN | apply Kd.S_drew)); exact HO371.out⟩, ⟨by repeat (first | (with_reducible first | exact HB.out | apply below_alloc | apply pw_below_drewN | apply below_drew1) | exact HB.out)⟩⟩
      case round =>
        clear H'
        try clear c2
        try clear c2b0
        try clear c2b1
        try clear p2
        try clear c3
        try clear c3b0
        try clear c3b1
        obtain ⟨x3_1, x4_1, rfl, HA, HK1, HO_3, HB⟩ := hrel
        cases gk with
        | zero => exact absurd HA.out (by simp [laws_toByteSS.l0])
        | succ k1 =>
          have H := HA.out
          clear HA
          simp only [laws_toByteSS.l0] at H
          by_cases c6 : x4_1 < (l0.length : Int)
          · rw [if_pos c6] at H
            have c6b0 : decide (x4_1 < (l0.length : Int)) = true := decide_eq_true c6
            clear c6
            by_cases c7 : 0 ≤ x4_1
            · rw [if_pos c7] at H
              have c7b0 : decide (0 ≤ x4_1) = true := decide_eq_true c7
              clear c7
              replace H := Option.bind_eq_some_iff.mp H
              obtain ⟨t373, A80, H⟩ := H
              replace H : (if x4_1 < (x3_1.length : Int) then (laws_toByteSS.l0 k1 l0 (x3_1.set (x4_1 : Int).toNat t373) (wrap64 (x4_1 + 1))) else (none)) = some r := H
              have A8 := Aside0.mk A80
              clear A80
              by_cases c9 : x4_1 < (x3_1.length : Int)
              · rw [if_pos c9] at H
                have c9b0 : decide (x4_1 < (x3_1.length : Int)) = true := decide_eq_true c9
                clear c9
                obtain ⟨y376, hy376⟩ : ∃ y_ : List (List Int), y_ = (x3_1.set (x4_1 : Int).toNat t373) := ⟨_, rfl⟩
                replace H : (laws_toByteSS.l0 k1 l0 y376 (wrap64 (x4_1 + 1))) = some r := by first | (rw [hy376]; with_reducible exact H) | (have H2_ := (Option.bind_some _ _).symm.trans H; rw [hy376]; with_reducible exact H2_) | (have H2_ := (Option.bind_some _ _).symm.trans H; with_reducible exact H2_) | with_reducible exact H | (rw [hy376]; exact H) | exact H
                have Ny376 := Aside0.mk hy376
                clear hy376
                have H' := Aside0.mk H
                clear H
                have p372 : 0 ≤ (x4_1 : Int) := of_decide_eq_true (by first | (with_reducible assumption) | assumption)
                have q372 : x4_1 < (l0.length : Int) := of_decide_eq_true (by first | (with_reducible assumption) | assumption)
                obtain ⟨ad372, A372_0, c372_0, e372, hx372_0, hl372_0, hi372_0⟩ := at_L2 HR0.out x4_1 p372 q372
                cases e372
                replace hx372_0 := (HB.out.cell (World.block_lt_of_cell? w _ hx372_0)).trans hx372_0
                have HR372_0 := Aside0.mk hi372_0
                have HC372_0 := Aside0.mk hl372_0
                clear hi372_0 hl372_0
                replace p372 := eq_true p372
                replace q372 := eq_true q372
                go_wp2_with (first | ((with_reducible refine gate_callee (f := 15) rfl ?_); refine goesL_ (some 20) rfl rfl Try.func15 (by kernel_rfl) rfl #[.slice A372_0 (rd_L2 l0 x4_1).length c372_0] rfl (by (try simp only [List.map_toArray, List.map_cons, List.map_nil]); first | done | rfl | (simp only [List.length_drop, List.length_take]; rfl)) ?_; (with_reducible refine (laws_toByteS.calls k1 _ _ (rd_L2 l0 x4_1) t373 _ ?side1 ?side2 A8.out).mono ?_); (case side1 => repeat (first | exact (Kd.C_below HR372_0.out HB.out) | (with_reducible refine Kd.C_alloc ?_ _) | (with_reducible refine Kd.C_drewN ?_ _) | (with_reducible refine Kd.C_drew ?_))); (case side2 => exact HC372_0.out); rintro e w11 ⟨v374, rfl, ho0, hb⟩; refine ⟨_, rfl, ?_⟩; have n0_ := Aside0.mk (Kd.S_elder' (by (with_reducible repeat (first | apply Kd.S_alloc | apply Kd.S_drewN | apply Kd.S_drew)); exact HO_3.out) (Kd.R_base ho0) hb); have n1_ := Aside0.mk (Kd.R_lower ho0 (below_size (by repeat (first | (with_reducible first | exact HB.out | apply below_alloc | apply pw_below_drewN | apply below_drew1) | exact HB.out)))); have n2_ := Aside0.mk (below_step (by repeat (first | (with_reducible first | exact HB.out | apply below_alloc | apply pw_below_drewN | apply below_drew1) | exact HB.out)) hb); clear HO_3; clear HB; have HO_3 := n0_; have HO375 := n1_; have HB := n2_; clear n0_ n1_ n2_; (try clear hb); (try clear hb2); (try clear hk); (try clear hi); (try clear ho0); have p10 : 0 ≤ (x4_1 : Int) := of_decide_eq_true (by first | (with_reducible assumption) | assumption); have q10 : (x4_1 : Int) < ((x3_1.length : Int) : Int) := of_decide_eq_true (by first | (with_reducible assumption) | assumption); obtain ⟨go10, co10, eo10, gb10, gl10, cl10, HG10⟩ := Kd.S_form HO_3.out (by omega); (first | cases eo10 | (injection eo10 with ea_ en_ ec_; (first | subst ea_ | (injection ea_ with ea_; subst ea_)); subst ec_; clear en_)); have GB10 := Aside0.mk gb10; have GG10 := Aside0.mk HG10; clear gb10 gl10 HG10; obtain ⟨_, ce10, hcl10, hM10, hcc10, hfr10, _, _⟩ := Kd.S_elem HO_3.out [] (x4_1 : Int) p10 q10; obtain ⟨ve10_0, rfl, ge10_0⟩ := hM10; have hx10_0 := hcc10 0 _ rfl; have hf10_0 := hfr10 0; (try simp only [show ((Kd.slice 5 (Kd.int .u8))).sz = 1 from rfl, Nat.mul_one, Nat.add_zero] at hx10_0); (try simp only [show ((Kd.slice 5 (Kd.int .u8))).sz = 1 from rfl, Nat.mul_one, Nat.add_zero] at hf10_0); (try clear hcl10); (try clear hcc10); (try clear hfr10); (try clear hM10); replace p10 := eq_true p10; replace q10 := eq_true q10; have n_ := Aside0.mk (Kd.S_mono (ok' := (fun k_ => some k_ ≠ (v374 : Value).ownBlock)) HO_3.out (fun k_ hk => hk.2)); clear HO_3; have HO_3 := n_; clear n_; have HX12 := Aside0.mk (show Kd.S (Kd.slice 5 (Kd.int .u8)) 22 w11 w.heap.size (fun k_ => ((fun _ => True)) k_ ∧ ¬ ((fun k_ => some k_ = (v374 : Value).ownBlock)) k_) (.slice (some ⟨go10, 0, none⟩) x3_1.length co10) x3_1 from (by (with_reducible repeat (first | apply Kd.S_alloc | apply Kd.S_drewN | apply Kd.S_drew)); exact Kd.S_mono HO_3.out (fun k_ hk => ⟨trivial, fun e_ => hk e_⟩))); obtain ⟨oki12, ce12, hcl12, hM12, hcc12, hfr12, hoki12, hH12⟩ := Kd.S_elem HX12.out [] (x4_1 : Int) (of_decide_eq_true (by first | (with_reducible assumption) | assumption)) (by have h_ : (x4_1 : Int) < ((x3_1.length : Int) : Int) := of_decide_eq_true (by first | (with_reducible assumption) | assumption); first | exact h_ | (have e_ := (Kd.S_reads' HO_3.out).1; omega) | simpa using h_); obtain ⟨ve12_0, rfl, ge12_0⟩ := hM12; have HP12 := Kd.S_seg hH12 (of_decide_eq_true (by first | (with_reducible assumption) | assumption)) (by have h_ : (x4_1 : Int) < ((x3_1.length : Int) : Int) := of_decide_eq_true (by first | (with_reducible assumption) | assumption); first | exact h_ | (have e_ := (Kd.S_reads' HO_3.out).1; omega) | simpa using h_) (seg := [v374]) (j := 0) (show 1 ≤ 1 from by decide) (x' := t373) (Kd.M_row (Kd.R_mono (Kd.R_tight rfl (Kd.R_mono (ok' := fun k_ => ((fun _ => True)) k_ ∧ k_ ≠ go10) (Kd.R_apart' (HO375.out) (Kd.S_typed HO_3.out) (by decide)) (fun k_ hk => ⟨trivial, fun e_ => (hk.2) (by rw [e_]; rfl)⟩))) (fun _ h_ => Or.inr (h_)))) (fun _ hk => hk) (fun k_ hk_ => ((Kd.R_mono (ok' := fun k_ => ((fun _ => True)) k_ ∧ k_ ≠ go10) (Kd.R_apart' (HO375.out) (Kd.S_typed HO_3.out) (by decide)) (fun k_ hk => ⟨trivial, fun e_ => (hk.2) (by rw [e_]; rfl)⟩))).1 k_ hk_.symm); have hx12_0 := hcc12 0 _ rfl; (try simp only [show ((Kd.slice 5 (Kd.int .u8))).sz = 1 from rfl, Nat.mul_one, Nat.add_zero] at hx12_0); have hf12_0 := hfr12 0; (try simp only [show ((Kd.slice 5 (Kd.int .u8))).sz = 1 from rfl, Nat.mul_one, Nat.add_zero] at hf12_0); (try clear hcl12); (try clear hcc12); (try clear hfr12); (try clear hM12); (try clear hoki12); (try clear hH12); (try simp only [show ((Kd.slice 5 (Kd.int .u8))).sz = 1 from rfl, Nat.mul_one, Nat.add_zero] at HP12)) | ((with_reducible refine gate_store (t := 22) (p := 21) rfl ?_); refine store_event (t := 22) (p := 21) (v := ?vo_w13) (w1 := (w11.setCell ⟨go10, (x4_1 : Int).toNat, none⟩ (v374))) ?hg ?ho ?hn ?hr ?_; (case ho => rfl); (case hg => rfl); (case hn => rfl); (case hr => first | (go_simp; done) | (go_simp; rfl) | (obtain ⟨Aq_, cq_, eq_⟩ := Kd.R_slice HO375.out; subst eq_; first | (go_simp; done) | (go_simp; rfl))); intro w13 hw; have hg : w11.grownBy w13 (some go10) := (by rw [hw]; exact HP12.2); have hp_ : Kd.S (Kd.slice 5 (Kd.int .u8)) 22 w13 w.heap.size (fun _ => True) (.slice (some ⟨go10, 0, none⟩) x3_1.length co10) y376 := (by rw [hw, Ny376.out]; exact HP12.1); clear HP12; have n0_ := Aside0.mk (hp_); have n1_ := Aside0.mk ((by rw [hw]; exact below_set (HB.out) GB10.out : Below w.heap.size w w13)); clear HO_3; clear HB; clear HO375; have HO_3 := n0_; have HB := n1_; clear n0_ n1_; clear hg hw hp_))
                go_roundg k1
                case measure => have := HK1.out; omega
                case rel => exact ⟨(y376), (wrap64 (x4_1 + 1)), (by first | rfl | (simp; done) | (simp [*]; done)), H', ⟨by have := HK1.out; omega⟩, ⟨by (with_reducible repeat (first | apply Kd.S_alloc | apply Kd.S_drewN | apply Kd.S_drew)); exact HO_3.out⟩, ⟨by repeat (first | (with_reducible first | exact HB.out | apply below_alloc | apply pw_below_drewN | apply below_drew1) | exact HB.out)⟩⟩
              · rw [if_neg c9] at H
                exact absurd H (by simp)
            · rw [if_neg c7] at H
              exact absurd H (by simp)
          · rw [if_neg c6] at H
            have c6b0 : decide (x4_1 < (l0.length : Int)) = false := decide_eq_false c6
            clear c6
            obtain rfl := Option.some.inj H
            go_wp2
            go_ret
            exact ⟨_, by first | rfl | (simp [errW_none, errW_some] <;> rfl) | (simp [*, errW_none, errW_some] <;> rfl), by (with_reducible repeat (first | apply Kd.S_alloc | apply Kd.S_drewN | apply Kd.S_drew)); exact HO_3.out, by repeat (first | (with_reducible first | exact HB.out | apply below_alloc | apply pw_below_drewN | apply below_drew1) | exact HB.out)⟩
    · rw [if_neg c3] at H
      exact absurd H (by simp)
  · rw [if_neg c2] at H
    exact absurd H (by simp)

end Go.Proofs.Ytlopmffdebhpfaa.G

/-! ## G138 -/
namespace Go.Proofs.Ytlopmffdebhpfaa.G
open Go.RowKit Go.Proofs.YtlopmffdebhpfaaW.PrintWords Go.Proofs.YtlopmffdebhpfaaW.PrintLast Go.Proofs.YtlopmffdebhpfaaW.PrintMore
attribute [local go_sem] max2_int min2_int max_two min_two max_three min_three max_four min_four
set_option linter.unusedVariables false
set_option linter.unusedSimpArgs false

/-! ### laws_toPend: function 138 -/
def laws_toPend.f (k : Nat) (a0_0 : Int) (l0_1 : List Int) : Option (Int × List Int) := (laws_toByteS.f k l0_1).bind fun t380 => (some (a0_0, t380))
set_option maxHeartbeats 8000000 in
set_option maxRecDepth 100000 in
theorem laws_toPend.calls (k : Nat) (a0_0 : Int) (A0_1 : Option Addr) (c0_1 : Nat) (l0_1 : List Int) (r1 : Int) (r2 : List Int) (w : World) (hr0_1 : Kd.C (Kd.int .u8) w A0_1 l0_1.length l0_1) (hc0_1 : l0_1.length ≤ c0_1) (h : laws_toPend.f k a0_0 l0_1 = some (r1, r2)) :
    Calls Try.prog 138 #[.agg #[.int .i64 a0_0, .slice A0_1 l0_1.length c0_1]] w fun e w' => ∃ v1_ : Value, e = .returned (.agg #[.int .i64 r1, v1_]) ∧ Kd.R (Kd.int .u8) 5 w' w.heap.size (fun _ => True) v1_ r2 ∧ Below w.heap.size w w' := by
  have hu184 := Try.underlying184
  have hu185 := Try.underlying185
  have HR0_1 := Aside0.mk hr0_1
  have HC0_1 := Aside0.mk hc0_1
  clear hr0_1 hc0_1
  have HB := Aside0.mk (Below.refl w.heap.size w)
  have H : ((laws_toByteS.f k l0_1).bind fun t380 => (some (a0_0, t380))) = some (r1, r2) := h
  clear h
  replace H := Option.bind_eq_some_iff.mp H
  obtain ⟨t380, A20, H⟩ := H
  replace H : (some (a0_0, t380)) = some (r1, r2) := H
  have A2 := Aside0.mk A20
  clear A20
  simp only [Option.some.injEq, Prod.mk.injEq] at H
  obtain ⟨rfl, rfl⟩ := H
  go_enter Try.func138, Try.ntmps138
  go_wp2_with (first | ((with_reducible refine gate_dst (N := 1) rfl ?_); refine box_event ?hg (N := 1) ?hd (cs := #[.int .i64 a0_0, .slice A0_1 l0_1.length c0_1]) (t := 184) ?hr ?_; (case hd => rfl); (case hg => rfl); (case hr => first | (go_simp; done) | (go_simp; rfl)); intro gb377 hg w3 hbox hb; have n0_ := Aside0.mk (below_step (by repeat (first | (with_reducible first | exact HB.out | apply below_alloc | apply pw_below_drewN | apply below_drew1) | exact HB.out)) hb); have n1_ := Aside0.mk (hbox); have n2_ := Aside0.mk ((by rw [hg]; exact (below_size (by repeat (first | (with_reducible first | exact HB.out | apply below_alloc | apply pw_below_drewN | apply below_drew1) | exact HB.out))) : w.heap.size ≤ gb377)); have n3_ := Aside0.mk ((by rw [hg]; exact (below_size (by repeat (first | (with_reducible first | exact HB.out | apply below_alloc | apply pw_below_drewN | apply below_drew1) | exact HB.out))) : w.heap.size ≤ gb377)); clear HB; have HB := n0_; have BK377 := n1_; have GW377 := n2_; have GE377 := n3_; clear n0_ n1_ n2_ n3_; clear hb hbox hg) | ((with_reducible refine gate_dst (N := 2) rfl ?_); refine box_event ?hg (N := 2) ?hd (cs := #[.int .i64 0, .slice none 0 0]) (t := 185) ?hr ?_; (case hd => rfl); (case hg => rfl); (case hr => first | (go_simp; done) | (go_simp; rfl)); intro gb378 hg w4 hbox hb; have n0_ := Aside0.mk (blk_below (g := gb377) (o := .cells #[.int .i64 a0_0, .slice A0_1 l0_1.length c0_1] 184 (0, 0)) (by (with_reducible repeat (first | refine blk_drewN ?_ _ | refine blk_drew ?_ | refine blk_alloc ?_ _)); exact BK377.out) hb); have n1_ := Aside0.mk (below_step (by repeat (first | (with_reducible first | exact HB.out | apply below_alloc | apply pw_below_drewN | apply below_drew1 | refine below_set ?_ GE377.out) | exact HB.out)) hb); have n2_ := Aside0.mk (hbox); have n3_ := Aside0.mk ((by rw [hg]; exact (below_size (by repeat (first | (with_reducible first | exact HB.out | apply below_alloc | apply pw_below_drewN | apply below_drew1 | refine below_set ?_ GE377.out) | exact HB.out))) : w.heap.size ≤ gb378)); have n4_ := Aside0.mk ((by rw [hg]; exact (below_size (by repeat (first | (with_reducible first | exact HB.out | apply below_alloc | apply pw_below_drewN | apply below_drew1 | refine below_set ?_ GE377.out) | exact HB.out))) : w.heap.size ≤ gb378)); have n5_ := Aside0.mk ((by rw [hg]; exact Nat.ne_of_lt (blk_lt (g := gb377) (o := .cells #[.int .i64 a0_0, .slice A0_1 l0_1.length c0_1] 184 (0, 0)) (by (with_reducible repeat (first | refine blk_drewN ?_ _ | refine blk_drew ?_ | refine blk_alloc ?_ _)); exact BK377.out)) : gb377 ≠ gb378)); have n6_ := Aside0.mk ((by rw [hg]; exact Nat.ne_of_gt (blk_lt (g := gb377) (o := .cells #[.int .i64 a0_0, .slice A0_1 l0_1.length c0_1] 184 (0, 0)) (by (with_reducible repeat (first | refine blk_drewN ?_ _ | refine blk_drew ?_ | refine blk_alloc ?_ _)); exact BK377.out)) : gb378 ≠ gb377)); clear BK377; clear HB; have BK377 := n0_; have HB := n1_; have BK378 := n2_; have GW378 := n3_; have GE378 := n4_; have NB377_378 := n5_; have NB378_377 := n6_; clear n0_ n1_ n2_ n3_ n4_ n5_ n6_; clear hb hbox hg) | ((with_reducible refine gate_dst (N := 3) rfl ?_); refine box_event ?hg (N := 3) ?hd (cs := #[.int .i64 0, .slice none 0 0]) (t := 185) ?hr ?_; (case hd => rfl); (case hg => rfl); (case hr => first | (go_simp; done) | (go_simp; rfl)); intro gb379 hg w5 hbox hb; have n0_ := Aside0.mk (blk_below (g := gb377) (o := .cells #[.int .i64 a0_0, .slice A0_1 l0_1.length c0_1] 184 (0, 0)) (by (with_reducible repeat (first | refine blk_drewN ?_ _ | refine blk_drew ?_ | refine blk_alloc ?_ _)); exact BK377.out) hb); have n1_ := Aside0.mk (blk_below (g := gb378) (o := .cells #[.int .i64 0, .slice none 0 0] 185 (0, 0)) (by (with_reducible repeat (first | refine blk_drewN ?_ _ | refine blk_drew ?_ | refine blk_alloc ?_ _)); exact BK378.out) hb); have n2_ := Aside0.mk (below_step (by repeat (first | (with_reducible first | exact HB.out | apply below_alloc | apply pw_below_drewN | apply below_drew1 | refine below_set ?_ GE377.out | refine below_set ?_ GE378.out) | exact HB.out)) hb); have n3_ := Aside0.mk (hbox); have n4_ := Aside0.mk ((by rw [hg]; exact (below_size (by repeat (first | (with_reducible first | exact HB.out | apply below_alloc | apply pw_below_drewN | apply below_drew1 | refine below_set ?_ GE377.out | refine below_set ?_ GE378.out) | exact HB.out))) : w.heap.size ≤ gb379)); have n5_ := Aside0.mk ((by rw [hg]; exact (below_size (by repeat (first | (with_reducible first | exact HB.out | apply below_alloc | apply pw_below_drewN | apply below_drew1 | refine below_set ?_ GE377.out | refine below_set ?_ GE378.out) | exact HB.out))) : w.heap.size ≤ gb379)); have n6_ := Aside0.mk ((by rw [hg]; exact Nat.ne_of_lt (blk_lt (g := gb377) (o := .cells #[.int .i64 a0_0, .slice A0_1 l0_1.length c0_1] 184 (0, 0)) (by (with_reducible repeat (first | refine blk_drewN ?_ _ | refine blk_drew ?_ | refine blk_alloc ?_ _)); exact BK377.out)) : gb377 ≠ gb379)); have n7_ := Aside0.mk ((by rw [hg]; exact Nat.ne_of_gt (blk_lt (g := gb377) (o := .cells #[.int .i64 a0_0, .slice A0_1 l0_1.length c0_1] 184 (0, 0)) (by (with_reducible repeat (first | refine blk_drewN ?_ _ | refine blk_drew ?_ | refine blk_alloc ?_ _)); exact BK377.out)) : gb379 ≠ gb377)); have n8_ := Aside0.mk ((by rw [hg]; exact Nat.ne_of_lt (blk_lt (g := gb378) (o := .cells #[.int .i64 0, .slice none 0 0] 185 (0, 0)) (by (with_reducible repeat (first | refine blk_drewN ?_ _ | refine blk_drew ?_ | refine blk_alloc ?_ _)); exact BK378.out)) : gb378 ≠ gb379)); have n9_ := Aside0.mk ((by rw [hg]; exact Nat.ne_of_gt (blk_lt (g := gb378) (o := .cells #[.int .i64 0, .slice none 0 0] 185 (0, 0)) (by (with_reducible repeat (first | refine blk_drewN ?_ _ | refine blk_drew ?_ | refine blk_alloc ?_ _)); exact BK378.out)) : gb379 ≠ gb378)); clear BK377; clear BK378; clear HB; have BK377 := n0_; have BK378 := n1_; have HB := n2_; have BK379 := n3_; have GW379 := n4_; have GE379 := n5_; have NB377_379 := n6_; have NB379_377 := n7_; have NB378_379 := n8_; have NB379_378 := n9_; clear n0_ n1_ n2_ n3_ n4_ n5_ n6_ n7_ n8_ n9_; clear hb hbox hg; have hnb6 := NB377_378.out; have hnc6 := NB378_377.out; have hnb7 := NB377_379.out; have hnc7 := NB379_377.out; have hcz8_0 : w5.cell? ⟨gb377, 0, none⟩ = some (.int .i64 a0_0) := (blk_cell BK377.out 0).trans rfl; have hcz8_1 : w5.cell? ⟨gb377, 1, none⟩ = some (.slice A0_1 l0_1.length c0_1) := (blk_cell BK377.out 1).trans rfl; have hfz8_0 := blk_frozen BK377.out 0; have hfz8_1 := blk_frozen BK377.out 1; have hnb9 := NB379_378.out; have hnc9 := NB378_379.out; have hcz10_0 : w5.cell? ⟨gb379, 0, none⟩ = some (.int .i64 0) := (blk_cell BK379.out 0).trans rfl; have hcz10_1 : w5.cell? ⟨gb379, 1, none⟩ = some (.slice none 0 0) := (blk_cell BK379.out 1).trans rfl; have hfz10_0 := blk_frozen BK379.out 0; have hfz10_1 := blk_frozen BK379.out 1) | ((with_reducible refine gate_callee (f := 15) rfl ?_); refine goesL_ (some 9) rfl rfl Try.func15 (by kernel_rfl) rfl #[.slice A0_1 l0_1.length c0_1] rfl (by (try simp only [List.map_toArray, List.map_cons, List.map_nil]); first | done | rfl | (simp only [List.length_drop, List.length_take]; rfl)) ?_; (with_reducible refine (laws_toByteS.calls k _ _ l0_1 t380 _ ?side1 ?side2 A2.out).mono ?_); (case side1 => exact Kd.C_below HR0_1.out (by repeat (first | (with_reducible first | exact HB.out | apply below_alloc | apply pw_below_drewN | apply below_drew1 | refine below_set ?_ GE377.out | refine below_set ?_ GE378.out | refine below_set ?_ GE379.out) | exact HB.out))); (case side2 => exact HC0_1.out); rintro e w11 ⟨v381, rfl, ho0, hb⟩; refine ⟨_, rfl, ?_⟩; have n0_ := Aside0.mk (Kd.R_lower ho0 (below_size (by repeat (first | (with_reducible first | exact HB.out | apply below_alloc | apply pw_below_drewN | apply below_drew1 | refine below_set ?_ GE377.out | refine below_set ?_ GE378.out | refine below_set ?_ GE379.out) | exact HB.out)))); have n1_ := Aside0.mk (blk_below (g := gb377) (o := .cells #[.int .i64 a0_0, .slice A0_1 l0_1.length c0_1] 184 (0, 0)) (by (with_reducible repeat (first | refine blk_drewN ?_ _ | refine blk_drew ?_ | refine blk_alloc ?_ _)); refine blk_far ?_ NB377_379.out _; (with_reducible repeat (first | refine blk_drewN ?_ _ | refine blk_drew ?_ | refine blk_alloc ?_ _)); exact BK377.out) hb); have n2_ := Aside0.mk (blk_below (g := gb378) (o := .cells #[.int .i64 0, .slice none 0 0] 185 (0, 0)) (by (with_reducible repeat (first | refine blk_drewN ?_ _ | refine blk_drew ?_ | refine blk_alloc ?_ _)); refine blk_far ?_ NB378_379.out _; (with_reducible repeat (first | refine blk_drewN ?_ _ | refine blk_drew ?_ | refine blk_alloc ?_ _)); exact BK378.out) hb); have n3_ := Aside0.mk (blk_below (g := gb379) (o := .cells #[.int .i64 a0_0, .slice none 0 0] 185 (0, 0)) (by (with_reducible repeat (first | refine blk_drewN ?_ _ | refine blk_drew ?_ | refine blk_alloc ?_ _)); refine blk_put (cs := #[.int .i64 0, .slice none 0 0]) ?_ 0 _ rfl; (with_reducible repeat (first | refine blk_drewN ?_ _ | refine blk_drew ?_ | refine blk_alloc ?_ _)); exact BK379.out) hb); have n4_ := Aside0.mk (below_step (by repeat (first | (with_reducible first | exact HB.out | apply below_alloc | apply pw_below_drewN | apply below_drew1 | refine below_set ?_ GE377.out | refine below_set ?_ GE378.out | refine below_set ?_ GE379.out) | exact HB.out)) hb); clear BK377; clear BK378; clear BK379; clear HB; have HO382 := n0_; have BK377 := n1_; have BK378 := n2_; have BK379 := n3_; have HB := n4_; clear n0_ n1_ n2_ n3_ n4_; (try clear hb); (try clear hb2); (try clear hk); (try clear hi); (try clear ho0); obtain ⟨Ao12, co12, eo12⟩ := Kd.R_slice HO382.out; subst eo12; have hcz13_0 : w11.cell? ⟨gb379, 0, none⟩ = some (.int .i64 a0_0) := (blk_cell BK379.out 0).trans rfl; have hcz13_1 : w11.cell? ⟨gb379, 1, none⟩ = some (.slice none 0 0) := (blk_cell BK379.out 1).trans rfl; have hfz13_0 := blk_frozen BK379.out 0; have hfz13_1 := blk_frozen BK379.out 1; have hcz14_0 : w11.cell? ⟨gb378, 0, none⟩ = some (.int .i64 0) := (blk_cell BK378.out 0).trans rfl; have hcz14_1 : w11.cell? ⟨gb378, 1, none⟩ = some (.slice none 0 0) := (blk_cell BK378.out 1).trans rfl; have hfz14_0 := blk_frozen BK378.out 0; have hfz14_1 := blk_frozen BK378.out 1))
  refine bodyPost_ret (results_cell_row rfl _ _ gb378 185 #[.int .i64 a0_0, .slice Ao12 t380.length co12] (0, 0) _ rfl (by (with_reducible repeat (first | refine blk_drewN ?_ _ | refine blk_drew ?_ | refine blk_alloc ?_ _)); refine blk_put (cs := #[.int .i64 a0_0, .slice none 0 0]) ?_ 1 _ rfl; (with_reducible repeat (first | refine blk_drewN ?_ _ | refine blk_drew ?_ | refine blk_alloc ?_ _)); refine blk_put (cs := #[.int .i64 0, .slice none 0 0]) ?_ 0 _ rfl; (with_reducible repeat (first | refine blk_drewN ?_ _ | refine blk_drew ?_ | refine blk_alloc ?_ _)); refine blk_far ?_ NB378_379.out _; (with_reducible repeat (first | refine blk_drewN ?_ _ | refine blk_drew ?_ | refine blk_alloc ?_ _)); exact BK378.out) Try.underlying185 rfl (by kernel_rfl)) rfl ?_
  exact ⟨_, by first | rfl | (simp [errW_none, errW_some] <;> rfl) | (simp [*, errW_none, errW_some] <;> rfl), by (with_reducible repeat (first | apply Kd.R_alloc | apply Kd.R_drewN | apply Kd.R_drew)); exact Kd.R_mono (Kd.R_far (p := ⟨gb378, 1, none⟩) (Kd.R_far (p := ⟨gb378, 0, none⟩) (Kd.R_far (p := ⟨gb379, 1, none⟩) (Kd.R_types (Kd.R_types HO382.out BK379.out (by decide)) BK378.out (by decide)) (fun _ hk => hk.1.2) (.slice Ao12 t380.length co12)) (fun _ hk => hk.2) (.int .i64 a0_0)) (fun _ hk => hk.2) (.slice Ao12 t380.length co12)) (fun _ hk => trivial), by repeat (first | (with_reducible first | exact HB.out | apply below_alloc | apply pw_below_drewN | apply below_drew1 | refine below_set ?_ GE377.out | refine below_set ?_ GE378.out | refine below_set ?_ GE379.out) | exact HB.out)⟩

end Go.Proofs.Ytlopmffdebhpfaa.G

/-! ## G86 -/
namespace Go.Proofs.Ytlopmffdebhpfaa.G
open Go.RowKit Go.Proofs.YtlopmffdebhpfaaW.PrintWords Go.Proofs.YtlopmffdebhpfaaW.PrintLast Go.Proofs.YtlopmffdebhpfaaW.PrintMore
attribute [local go_sem] max2_int min2_int max_two min_two max_three min_three max_four min_four
set_option linter.unusedVariables false
set_option linter.unusedSimpArgs false

/-! ### laws_toPendS: function 86 -/
def laws_toPendS.l0 : Nat → List (S184) → List (S185) → Int → Option ((List (S185)))
  | 0, _, _, _ => none
  | k + 1, x0, x3, x4 => if x4 < (x0.length : Int) then (if 0 ≤ x4 then ((laws_toPend.f k ((rd_T184 x0 x4).f0) ((rd_T184 x0 x4).f1)).bind fun bt387 => (if x4 < (x3.length : Int) then (laws_toPendS.l0 k x0 (x3.set (x4 : Int).toNat (⟨bt387.1, bt387.2⟩ : S185)) (wrap64 (x4 + 1))) else (none))) else (none)) else (some x3)
def laws_toPendS.f (k : Nat) (l0 : List (S184)) : Option ((List (S185))) := if 0 ≤ (l0.length : Int) then (if ((l0.length : Int) : Int).toNat ≤ 8796093022208 then (laws_toPendS.l0 k l0 (List.replicate ((l0.length : Int) : Int).toNat z185) 0) else (none)) else (none)
set_option maxHeartbeats 8000000 in
set_option maxRecDepth 100000 in
theorem laws_toPendS.calls (k : Nat) (A0 : Option Addr) (c0 : Nat) (l0 : List (S184)) (r : List (S185)) (w : World) (hr0 : Kd.C k184 w A0 l0.length l0) (hc0 : l0.length ≤ c0) (h : laws_toPendS.f k l0 = some r) :
    Calls Try.prog 86 #[.slice A0 l0.length c0] w fun e w' => ∃ v0_ : Value, e = .returned (v0_) ∧ Kd.S k185 185 w' w.heap.size (fun _ => True) v0_ r ∧ Below w.heap.size w w' := by
  have hu184 := Try.underlying184
  have hu185 := Try.underlying185
  have HR0 := Aside0.mk hr0
  have HC0 := Aside0.mk hc0
  clear hr0 hc0
  have HB := Aside0.mk (Below.refl w.heap.size w)
  have H : (if 0 ≤ (l0.length : Int) then (if ((l0.length : Int) : Int).toNat ≤ 8796093022208 then (laws_toPendS.l0 k l0 (List.replicate ((l0.length : Int) : Int).toNat z185) 0) else (none)) else (none)) = some r := h
  clear h
  by_cases c2 : 0 ≤ (l0.length : Int)
  · rw [if_pos c2] at H
    have c2b0 := eq_true c2
    have c2b1 : decide (0 ≤ (l0.length : Int)) = true := decide_eq_true c2
    clear c2
    by_cases c3 : ((l0.length : Int) : Int).toNat ≤ 8796093022208
    · rw [if_pos c3] at H
      have c3b0 := eq_true c3
      have c3b1 : decide (((l0.length : Int) : Int).toNat ≤ 8796093022208) = true := decide_eq_true c3
      clear c3
      obtain ⟨y383, hy383⟩ : ∃ y_ : List (S185), y_ = (List.replicate ((l0.length : Int) : Int).toNat z185) := ⟨_, rfl⟩
      replace H : (laws_toPendS.l0 k l0 y383 0) = some r := by first | (rw [hy383]; with_reducible exact H) | (have H2_ := (Option.bind_some _ _).symm.trans H; rw [hy383]; with_reducible exact H2_) | (have H2_ := (Option.bind_some _ _).symm.trans H; with_reducible exact H2_) | with_reducible exact H | (rw [hy383]; exact H) | exact H
      have Ny383 := Aside0.mk hy383
      clear hy383
      have H' := Aside0.mk H
      clear H
      go_enter Try.func86, Try.ntmps86
      go_wp2_with (first | ((with_reducible refine gate_dst (N := 7) rfl ?_); refine Kd.S_make k185 _ 185 rfl (N := 7) rfl 42 _ _ rfl (l0.length : Int) rfl rfl Try.underlying42 (.agg #[(.int .i64 0), (.slice none 0 0)]) 32 info185 rfl (by decide) (by omega) z185 (ok := fun _ => True) (okp := fun _ => True) (k185_mkM _ _ _ z185 (Kd.R_nil _ _ _ _ _)) (fun _ hk => hk) trivial (of_decide_eq_true (by first | (with_reducible assumption) | assumption)) (Nat.le_trans (Nat.mul_le_mul_right _ (of_decide_eq_true (by first | (with_reducible assumption) | assumption) : (l0.length : Int).toNat ≤ 8796093022208)) (by omega)) (Below.refl _ _) (Nat.le_refl _) ?_; intro v384 w4 ho5 hb hg_ hnew_; clear hg_ hnew_; (first | rw [← Ny383.out] at ho5 | (simp only [Int.reduceToNat] at ho5; rw [← Ny383.out] at ho5)); have n0_ := Aside0.mk (Kd.S_lower ho5 (below_size (by repeat (first | (with_reducible first | exact HB.out | apply below_alloc | apply pw_below_drewN | apply below_drew1) | exact HB.out)))); have n1_ := Aside0.mk (below_step (by repeat (first | (with_reducible first | exact HB.out | apply below_alloc | apply pw_below_drewN | apply below_drew1) | exact HB.out)) hb); clear HB; have HO385 := n0_; have HB := n1_; clear n0_ n1_; clear hb ho5))
      go_loopg [4] k (fun kq v4 w' => ∃ (x3_1 : List (S185)) (x4_1 : Int), v4 = .int .i64 x4_1 ∧ Aside0 (laws_toPendS.l0 kq l0 x3_1 x4_1 = some r) ∧ Aside0 (kq ≤ k) ∧ Aside0 (Kd.S k185 185 w' w.heap.size (fun _ => True) v384 x3_1) ∧ Aside0 (Below w.heap.size w w'))
      case atStart => exact ⟨(y383), (0), (by first | rfl | (simp; done) | (simp [*]; done)), H', ⟨Nat.le_refl _⟩, ⟨by (with_reducible repeat (first | apply Kd.S_alloc | apply Kd.S_drewN | apply Kd.S_drew)); exact HO385.out⟩, ⟨by repeat (first | (with_reducible first | exact HB.out | apply below_alloc | apply pw_below_drewN | apply below_drew1) | exact HB.out)⟩⟩
      case round =>
        clear H'
        try clear c2
        try clear c2b0
        try clear c2b1
        try clear p2
        try clear c3
        try clear c3b0
        try clear c3b1
        obtain ⟨x3_1, x4_1, rfl, HA, HK1, HO_3, HB⟩ := hrel
        cases gk with
        | zero => exact absurd HA.out (by simp [laws_toPendS.l0])
        | succ k1 =>
          have H := HA.out
          clear HA
          simp only [laws_toPendS.l0] at H
          by_cases c6 : x4_1 < (l0.length : Int)
          · rw [if_pos c6] at H
            have c6b0 : decide (x4_1 < (l0.length : Int)) = true := decide_eq_true c6
            clear c6
            by_cases c7 : 0 ≤ x4_1
            · rw [if_pos c7] at H
              have c7b0 : decide (0 ≤ x4_1) = true := decide_eq_true c7
              clear c7
              replace H := Option.bind_eq_some_iff.mp H
              obtain ⟨⟨t387, t388⟩, A80, H⟩ := H
              replace H : (if x4_1 < (x3_1.length : Int) then (laws_toPendS.l0 k1 l0 (x3_1.set (x4_1 : Int).toNat (⟨t387, t388⟩ : S185)) (wrap64 (x4_1 + 1))) else (none)) = some r := H
              have A8 := Aside0.mk A80
              clear A80
              by_cases c9 : x4_1 < (x3_1.length : Int)
              · rw [if_pos c9] at H
                have c9b0 : decide (x4_1 < (x3_1.length : Int)) = true := decide_eq_true c9
                clear c9
                obtain ⟨y391, hy391⟩ : ∃ y_ : List (S185), y_ = (x3_1.set (x4_1 : Int).toNat (⟨t387, t388⟩ : S185)) := ⟨_, rfl⟩
                replace H : (laws_toPendS.l0 k1 l0 y391 (wrap64 (x4_1 + 1))) = some r := by first | (rw [hy391]; with_reducible exact H) | (have H2_ := (Option.bind_some _ _).symm.trans H; rw [hy391]; with_reducible exact H2_) | (have H2_ := (Option.bind_some _ _).symm.trans H; with_reducible exact H2_) | with_reducible exact H | (rw [hy391]; exact H) | exact H
                have Ny391 := Aside0.mk hy391
                clear hy391
                have H' := Aside0.mk H
                clear H
                have p386 : 0 ≤ (x4_1 : Int) := of_decide_eq_true (by first | (with_reducible assumption) | assumption)
                have q386 : x4_1 < (l0.length : Int) := of_decide_eq_true (by first | (with_reducible assumption) | assumption)
                obtain ⟨ad386, A386_1, c386_1, e386, hx386_0, hx386_1, hl386_1, hi386_1⟩ := at_T184 HR0.out x4_1 p386 q386
                cases e386
                replace hx386_0 := (HB.out.cell (World.block_lt_of_cell? w _ hx386_0)).trans hx386_0
                replace hx386_1 := (HB.out.cell (World.block_lt_of_cell? w _ hx386_1)).trans hx386_1
                have HR386_1 := Aside0.mk hi386_1
                have HC386_1 := Aside0.mk hl386_1
                clear hi386_1 hl386_1
                replace p386 := eq_true p386
                replace q386 := eq_true q386
                go_wp2_with (first | ((with_reducible refine gate_callee (f := 138) rfl ?_); refine goesL_ (some 20) rfl rfl Try.func138 (by kernel_rfl) rfl #[.agg #[.int .i64 ((rd_T184 l0 x4_1).f0), .slice A386_1 ((rd_T184 l0 x4_1).f1).length c386_1]] rfl (by (try simp only [List.map_toArray, List.map_cons, List.map_nil]); first | done | rfl | (simp only [List.length_drop, List.length_take]; rfl)) ?_; (with_reducible refine (laws_toPend.calls k1 ((rd_T184 l0 x4_1).f0) _ _ ((rd_T184 l0 x4_1).f1) t387 t388 _ ?side1 ?side2 A8.out).mono ?_); (case side1 => repeat (first | exact (Kd.C_below HR386_1.out HB.out) | (with_reducible refine Kd.C_alloc ?_ _) | (with_reducible refine Kd.C_drewN ?_ _) | (with_reducible refine Kd.C_drew ?_))); (case side2 => exact HC386_1.out); rintro e w11 ⟨v389, rfl, ho0, hb⟩; refine ⟨_, rfl, ?_⟩; have n0_ := Aside0.mk (Kd.S_elder' (by (with_reducible repeat (first | apply Kd.S_alloc | apply Kd.S_drewN | apply Kd.S_drew)); exact HO_3.out) (Kd.R_base ho0) hb); have n1_ := Aside0.mk (Kd.R_lower ho0 (below_size (by repeat (first | (with_reducible first | exact HB.out | apply below_alloc | apply pw_below_drewN | apply below_drew1) | exact HB.out)))); have n2_ := Aside0.mk (below_step (by repeat (first | (with_reducible first | exact HB.out | apply below_alloc | apply pw_below_drewN | apply below_drew1) | exact HB.out)) hb); clear HO_3; clear HB; have HO_3 := n0_; have HO390 := n1_; have HB := n2_; clear n0_ n1_ n2_; (try clear hb); (try clear hb2); (try clear hk); (try clear hi); (try clear ho0); have p10 : 0 ≤ (x4_1 : Int) := of_decide_eq_true (by first | (with_reducible assumption) | assumption); have q10 : (x4_1 : Int) < ((x3_1.length : Int) : Int) := of_decide_eq_true (by first | (with_reducible assumption) | assumption); obtain ⟨go10, co10, eo10, gb10, gl10, cl10, HG10⟩ := Kd.S_form HO_3.out (by omega); (first | cases eo10 | (injection eo10 with ea_ en_ ec_; (first | subst ea_ | (injection ea_ with ea_; subst ea_)); subst ec_; clear en_)); have GB10 := Aside0.mk gb10; have GG10 := Aside0.mk HG10; clear gb10 gl10 HG10; obtain ⟨_, ce10, hcl10, hM10, hcc10, hfr10, _, _⟩ := Kd.S_elem HO_3.out z185 (x4_1 : Int) p10 q10; obtain ⟨ve10_1, rfl, ge10_1⟩ := k185_openM hM10; have hx10_0 : w11.cell? ⟨go10, (x4_1 : Int).toNat * 2, none⟩ = some (.int .i64 ((rd_T185 x3_1 x4_1).f0)) := hcc10 0 _ rfl; have hx10_1 : w11.cell? ⟨go10, (x4_1 : Int).toNat * 2 + 1, none⟩ = some (ve10_1) := hcc10 1 _ rfl; have hf10_0 : w11.frozen? ⟨go10, (x4_1 : Int).toNat * 2, none⟩ = false := hfr10 0; have hf10_1 : w11.frozen? ⟨go10, (x4_1 : Int).toNat * 2 + 1, none⟩ = false := hfr10 1; (try clear hcl10); (try clear hcc10); (try clear hfr10); (try clear hM10); replace p10 := eq_true p10; replace q10 := eq_true q10; have n_ := Aside0.mk (Kd.S_mono (ok' := (fun k_ => some k_ ≠ (v389 : Value).ownBlock)) HO_3.out (fun k_ hk => hk.2)); clear HO_3; have HO_3 := n_; clear n_; have HX12 := Aside0.mk (show Kd.S k185 185 w11 w.heap.size (fun k_ => ((fun _ => True)) k_ ∧ ¬ ((fun k_ => some k_ = (v389 : Value).ownBlock)) k_) (.slice (some ⟨go10, 0, none⟩) x3_1.length co10) x3_1 from (by (with_reducible repeat (first | apply Kd.S_alloc | apply Kd.S_drewN | apply Kd.S_drew)); exact Kd.S_mono HO_3.out (fun k_ hk => ⟨trivial, fun e_ => hk e_⟩))); obtain ⟨oki12, ce12, hcl12, hM12, hcc12, hfr12, hoki12, hH12⟩ := Kd.S_elem HX12.out z185 (x4_1 : Int) (of_decide_eq_true (by first | (with_reducible assumption) | assumption)) (by have h_ : (x4_1 : Int) < ((x3_1.length : Int) : Int) := of_decide_eq_true (by first | (with_reducible assumption) | assumption); first | exact h_ | (have e_ := (Kd.S_reads' HO_3.out).1; omega) | simpa using h_); obtain ⟨ve12_1, rfl, ge12_1⟩ := k185_openM hM12; have HP12 := Kd.S_seg hH12 (of_decide_eq_true (by first | (with_reducible assumption) | assumption)) (by have h_ : (x4_1 : Int) < ((x3_1.length : Int) : Int) := of_decide_eq_true (by first | (with_reducible assumption) | assumption); first | exact h_ | (have e_ := (Kd.S_reads' HO_3.out).1; omega) | simpa using h_) (seg := [.int .i64 t387, v389]) (j := 0) (show 2 ≤ 2 from by decide) (x' := (⟨t387, t388⟩ : S185)) (k185_mkM _ _ _ (⟨t387, t388⟩ : S185) (Kd.R_mono (Kd.R_tight rfl (Kd.R_mono (ok' := fun k_ => ((fun _ => True)) k_ ∧ k_ ≠ go10) (Kd.R_apart' (HO390.out) (Kd.S_typed HO_3.out) (by decide)) (fun k_ hk => ⟨trivial, fun e_ => (hk.2) (by rw [e_]; rfl)⟩))) (fun _ h_ => Or.inr (h_)))) (fun _ hk => hk) (fun k_ hk_ => ((Kd.R_mono (ok' := fun k_ => ((fun _ => True)) k_ ∧ k_ ≠ go10) (Kd.R_apart' (HO390.out) (Kd.S_typed HO_3.out) (by decide)) (fun k_ hk => ⟨trivial, fun e_ => (hk.2) (by rw [e_]; rfl)⟩))).1 k_ hk_.symm); have hx12_0 := hcc12 0 _ rfl; (try simp only [show (k185).sz = 2 from rfl, Nat.mul_one, Nat.add_zero] at hx12_0); have hf12_0 := hfr12 0; (try simp only [show (k185).sz = 2 from rfl, Nat.mul_one, Nat.add_zero] at hf12_0); have hx12_1 := hcc12 1 _ rfl; (try simp only [show (k185).sz = 2 from rfl, Nat.mul_one, Nat.add_zero] at hx12_1); have hf12_1 := hfr12 1; (try simp only [show (k185).sz = 2 from rfl, Nat.mul_one, Nat.add_zero] at hf12_1); (try clear hcl12); (try clear hcc12); (try clear hfr12); (try clear hM12); (try clear hoki12); (try clear hH12)) | ((with_reducible refine gate_store (t := 185) (p := 21) rfl ?_); refine store_event (t := 185) (p := 21) (v := ?vo_w13) (w1 := ((w11.setCell ⟨go10, (x4_1 : Int).toNat * 2, none⟩ (.int .i64 t387)).setCell ⟨go10, (x4_1 : Int).toNat * 2 + 1, none⟩ (v389))) ?hg ?ho ?hn ?hr ?_; (case ho => rfl); (case hg => rfl); (case hn => rfl); (case hr => first | (go_simp; done) | (go_simp; rfl) | (obtain ⟨Aq_, cq_, eq_⟩ := Kd.R_slice HO390.out; subst eq_; first | (go_simp; done) | (go_simp; rfl))); intro w13 hw; have hg : w11.grownBy w13 (some go10) := (by rw [hw]; exact HP12.2); have hp_ : Kd.S k185 185 w13 w.heap.size (fun _ => True) (.slice (some ⟨go10, 0, none⟩) x3_1.length co10) y391 := (by rw [hw, Ny391.out]; exact HP12.1); clear HP12; have n0_ := Aside0.mk (hp_); have n1_ := Aside0.mk ((by rw [hw]; exact below_set (below_set (HB.out) GB10.out) GB10.out : Below w.heap.size w w13)); clear HO_3; clear HB; clear HO390; have HO_3 := n0_; have HB := n1_; clear n0_ n1_; clear hg hw hp_))
                go_roundg k1
                case measure => have := HK1.out; omega
                case rel => exact ⟨(y391), (wrap64 (x4_1 + 1)), (by first | rfl | (simp; done) | (simp [*]; done)), H', ⟨by have := HK1.out; omega⟩, ⟨by (with_reducible repeat (first | apply Kd.S_alloc | apply Kd.S_drewN | apply Kd.S_drew)); exact HO_3.out⟩, ⟨by repeat (first | (with_reducible first | exact HB.out | apply below_alloc | apply pw_below_drewN | apply below_drew1) | exact HB.out)⟩⟩
              · rw [if_neg c9] at H
                exact absurd H (by simp)
            · rw [if_neg c7] at H
              exact absurd H (by simp)
          · rw [if_neg c6] at H
            have c6b0 : decide (x4_1 < (l0.length : Int)) = false := decide_eq_false c6
            clear c6
            obtain rfl := Option.some.inj H
            go_wp2
            go_ret
            exact ⟨_, by first | rfl | (simp [errW_none, errW_some] <;> rfl) | (simp [*, errW_none, errW_some] <;> rfl), by (with_reducible repeat (first | apply Kd.S_alloc | apply Kd.S_drewN | apply Kd.S_drew)); exact HO_3.out, by repeat (first | (with_reducible first | exact HB.out | apply below_alloc | apply pw_below_drewN | apply below_drew1) | exact HB.out)⟩
    · rw [if_neg c3] at H
      exact absurd H (by simp)
  · rw [if_neg c2] at H
    exact absurd H (by simp)

end Go.Proofs.Ytlopmffdebhpfaa.G

/-! ## G26 -/
namespace Go.Proofs.Ytlopmffdebhpfaa.G
open Go.RowKit Go.Proofs.YtlopmffdebhpfaaW.PrintWords Go.Proofs.YtlopmffdebhpfaaW.PrintLast Go.Proofs.YtlopmffdebhpfaaW.PrintMore
attribute [local go_sem] max2_int min2_int max_two min_two max_three min_three max_four min_four
set_option linter.unusedVariables false
set_option linter.unusedSimpArgs false

/-! ### laws_toDisk: function 26 -/
def laws_toDisk.f (k : Nat) (l0_0 : List (List Int)) (l0_1 : List (S184)) : Option ((List (List Int)) × (List (S185))) := (laws_toByteSS.f k l0_0).bind fun t395 => ((laws_toPendS.f k l0_1).bind fun t398 => (some (t395, t398)))
end Go.Proofs.Ytlopmffdebhpfaa.G

/-! ## ToDisk -/
namespace Go.Proofs.Ytlopmffdebhpfaa.G
open Go.RowKit Go.Proofs.YtlopmffdebhpfaaW.PrintWords Go.Proofs.YtlopmffdebhpfaaW.PrintLast Go.Proofs.YtlopmffdebhpfaaW.PrintMore
set_option linter.unusedVariables false
set_option linter.unusedSimpArgs false

/-- A disk of the call's own: its sectors' rows and its pending writes' rows lie in blocks of their own, apart. -/
def IsDisk (w : World) (base : Nat) (P Q : Nat → Prop) (v0 v1 : Value) (r1 : List (List Int)) (r2 : List S185) : Prop :=
  (∀ k, P k → ¬ Q k) ∧ Kd.S (Kd.slice 5 (Kd.int .u8)) 22 w base P v0 r1 ∧ Kd.S k185 185 w base Q v1 r2
theorem IsDisk_below {w w1 : World} {base : Nat} {P Q : Nat → Prop} {v0 v1 : Value} {r1 : List (List Int)} {r2 : List S185} (h : IsDisk w base P Q v0 v1 r1 r2) (hb : Below w.heap.size w w1) : IsDisk w1 base P Q v0 v1 r1 r2 := ⟨h.1, Kd.S_below h.2.1 hb, Kd.S_below h.2.2 hb⟩
set_option maxHeartbeats 4000000 in
set_option maxRecDepth 100000 in
theorem laws_toDisk.apart (k : Nat) (A0 : Option Addr) (c0 : Nat) (l0 : List (List Int)) (A1 : Option Addr) (c1 : Nat) (l1 : List S184) (r1 : List (List Int)) (r2 : List S185) (w : World) (hr0 : Kd.C (Kd.slice 5 (Kd.int .u8)) w A0 l0.length l0) (hc0 : l0.length ≤ c0) (hr1 : Kd.C k184 w A1 l1.length l1) (hc1 : l1.length ≤ c1) (h : laws_toDisk.f k l0 l1 = some (r1, r2)) :
    Calls Try.prog 26 #[.agg #[.slice A0 l0.length c0, .slice A1 l1.length c1]] w fun e w' => ∃ v0 v1 : Value, ∃ P Q, e = .returned (.agg #[v0, v1]) ∧ IsDisk w' w.heap.size P Q v0 v1 r1 r2 ∧ Below w.heap.size w w' := by
  have hu44 := Try.underlying44
  have hu39 := Try.underlying39
  have HR0 := Aside0.mk hr0
  have HR1 := Aside0.mk hr1
  have HC0 := Aside0.mk hc0
  have HC1 := Aside0.mk hc1
  clear hr0 hr1 hc0 hc1
  unfold laws_toDisk.f at h
  obtain ⟨s1, H1, h⟩ := Option.bind_eq_some_iff.mp h
  obtain ⟨s2, H2, h⟩ := Option.bind_eq_some_iff.mp h
  simp only [Option.some.injEq, Prod.mk.injEq] at h
  obtain ⟨rfl, rfl⟩ := h
  have N1 := Aside0.mk H1
  have N2 := Aside0.mk H2
  clear H1 H2
  go_enter Try.func26, Try.ntmps26
  go_wp2_with (first | ((with_reducible refine gate_dst (N := 1) rfl ?_); refine box_event ?hg (N := 1) ?hd (cs := #[.slice A0 l0.length c0, .slice A1 l1.length c1]) (t := 39) ?hr ?_; (case hd => rfl); (case hg => rfl); (case hr => first | (go_simp; done) | (go_simp; rfl)); intro gp hgr w1 hbox hbel; have BP1 := Aside0.mk hbox; have HB1 := Aside0.mk hbel; have hp0 : w1.cell? ⟨gp, 0, none⟩ = some (.slice A0 l0.length c0) := (blk_cell hbox 0).trans rfl; have hp1 : w1.cell? ⟨gp, 1, none⟩ = some (.slice A1 l1.length c1) := (blk_cell hbox 1).trans rfl; clear hbox hbel hgr) | ((with_reducible refine gate_dst (N := 2) rfl ?_); refine box_event ?hg (N := 2) ?hd (cs := #[.slice none 0 0, .slice none 0 0]) (t := 44) ?hr ?_; (case hd => rfl); (case hg => rfl); (case hr => first | (go_simp; done) | (go_simp; rfl)); intro gr hgr w2 hbox hbel; have BR2 := Aside0.mk hbox; have BP2 := Aside0.mk (blk_below BP1.out hbel); have HB2 := Aside0.mk (below_step HB1.out hbel); have GR : Aside0 (w.heap.size ≤ gr) := ⟨by rw [hgr]; exact HB1.out.size⟩; have hp0 : w2.cell? ⟨gp, 0, none⟩ = some (.slice A0 l0.length c0) := (blk_cell BP2.out 0).trans rfl; clear hbox hbel hgr) | ((with_reducible refine gate_dst (N := 3) rfl ?_); refine box_event ?hg (N := 3) ?hd (cs := #[.slice none 0 0, .slice none 0 0]) (t := 44) ?hr ?_; (case hd => rfl); (case hg => rfl); (case hr => first | (go_simp; done) | (go_simp; rfl)); intro go hgr w3 hbox hbel; have BO3 := Aside0.mk hbox; have BR3 := Aside0.mk (blk_below BR2.out hbel); have BP3 := Aside0.mk (blk_below BP2.out hbel); have HB3 := Aside0.mk (below_step HB2.out hbel); have GO : Aside0 (w.heap.size ≤ go) := ⟨by rw [hgr]; exact HB2.out.size⟩; have NPO : Aside0 (gp ≠ go) := ⟨by have := blk_lt BP2.out; omega⟩; have NRO : Aside0 (gr ≠ go) := ⟨by have := blk_lt BR2.out; omega⟩; have hp0 : w3.cell? ⟨gp, 0, none⟩ = some (.slice A0 l0.length c0) := (blk_cell BP3.out 0).trans rfl; have hp1 : w3.cell? ⟨gp, 1, none⟩ = some (.slice A1 l1.length c1) := (blk_cell BP3.out 1).trans rfl; clear hbox hbel hgr))
  refine (laws_toByteSS.calls k A0 c0 l0 s1 _ (Kd.C_below HR0.out HB3.out) HC0.out N1.out).mono ?_
  rintro e w4 ⟨v4, rfl, ho4, hb4⟩
  have HO4 := Aside0.mk (Kd.S_lower ho4 HB3.out.size)
  have HB4 := Aside0.mk (below_step HB3.out hb4)
  have BP4 := Aside0.mk (blk_below BP3.out hb4)
  have BR4 := Aside0.mk (blk_below BR3.out hb4)
  have BO4 := Aside0.mk (blk_below BO3.out hb4)
  have HTY4 := Aside0.mk (Kd.S_new' ho4 (u := .slice (some ⟨gp, 0, none⟩) 0 0) (by intro q hq; simp [Value.ownBlock] at hq; subst hq; exact blk_lt BP3.out))
  clear ho4 hb4 HB3 BP3 BR3 BO3 hp0 hp1 HTY4
  obtain ⟨A4, c4, ev4⟩ := Kd.S_slice HO4.out
  subst ev4
  go_wp2_with (first | ((with_reducible refine gate_ (.store 36 (.tmp 7) (.tmp 6)) rfl ?_); refine store_blk rfl rfl 36 (.tmp 7) (.tmp 6) rfl (off := 0) (u := .slice A4 s1.length c4) #[.slice A4 s1.length c4, .slice none 0 0] rfl rfl BO4.out [.slice A4 s1.length c4] rfl (by kernel_rfl) (Nat.le_of_ble_eq_true rfl) rfl rfl ?_; intro w5 hblk hgrw; have BO5 := Aside0.mk hblk; have BP5 := Aside0.mk (blk_grown BP4.out hgrw (fun e => NPO.out (Option.some.inj e))); have BR5 := Aside0.mk (blk_grown BR4.out hgrw (fun e => NRO.out (Option.some.inj e))); have HB5 := Aside0.mk (HB4.out.grown hgrw HB4.out.size (by intro q hq; cases hq; exact GO.out)); have HO5 := Aside0.mk (Kd.S_grown (Kd.S_types HO4.out BO4.out (by decide)) hgrw (fun q hq e => hq.2 (Option.some.inj e))); have hp0 : w5.cell? ⟨gp, 0, none⟩ = some (.slice A0 l0.length c0) := (blk_cell BP5.out 0).trans rfl; have hp1 : w5.cell? ⟨gp, 1, none⟩ = some (.slice A1 l1.length c1) := (blk_cell BP5.out 1).trans rfl; clear hblk hgrw))
  refine (laws_toPendS.calls k A1 c1 l1 s2 _ (Kd.C_below HR1.out HB5.out) HC1.out N2.out).mono ?_
  rintro e w6 ⟨v6, rfl, ho6, hb6⟩
  have HQ6 := Aside0.mk (Kd.S_mono (Kd.S_bound ho6) (ok' := fun q => w5.heap.size ≤ q) (fun q hq => hq.2.1))
  have HP6 := Aside0.mk (Kd.S_mono (Kd.S_old HO5.out hb6) (ok' := fun q => q < w5.heap.size ∧ q ≠ go) (fun q hq => ⟨hq.2, hq.1.2⟩))
  have HQ7 := Aside0.mk (Kd.S_lower HQ6.out HB5.out.size)
  have HB6 := Aside0.mk (below_step HB5.out hb6)
  have BR6 := Aside0.mk (blk_below BR5.out hb6)
  have BO6 := Aside0.mk (blk_below BO5.out hb6)
  have HNO : Aside0 (go < w5.heap.size) := ⟨blk_lt BO5.out⟩
  have HNR : Aside0 (gr < w5.heap.size) := ⟨blk_lt BR5.out⟩
  have HRT := Aside0.mk (Kd.S_types HP6.out BR6.out (by decide))
  clear ho6 hb6 HB5 BP5 BR5 BO5 hp0 hp1 HO5 HQ6 HP6
  obtain ⟨A6, c6, ev6⟩ := Kd.S_slice HQ7.out
  subst ev6
  go_wp2_with (first | ((with_reducible refine gate_ (.store 42 (.tmp 11) (.tmp 10)) rfl ?_); refine store_blk rfl rfl 42 (.tmp 11) (.tmp 10) rfl (off := 1) (u := .slice A6 s2.length c6) #[.slice A4 s1.length c4, .slice A6 s2.length c6] rfl rfl BO6.out [.slice A6 s2.length c6] rfl (by kernel_rfl) (Nat.le_of_ble_eq_true rfl) rfl rfl ?_; intro w7 hblk hgrw; have BO7 := Aside0.mk hblk; have BR7 := Aside0.mk (blk_grown BR6.out hgrw (fun e => NRO.out (Option.some.inj e))); have HB7 := Aside0.mk (HB6.out.grown hgrw HB6.out.size (by intro q hq; cases hq; exact GO.out)); have HP7 := Aside0.mk (Kd.S_grown HRT.out hgrw (fun q hq e => hq.1.2 (Option.some.inj e))); have HQ8a := Aside0.mk (Kd.S_grown HQ7.out hgrw (fun q hq e => by cases e; exact absurd hq (Nat.not_le.mpr HNO.out))); have ho0 : w7.cell? ⟨go, 0, none⟩ = some (.slice A4 s1.length c4) := (blk_cell BO7.out 0).trans rfl; have ho1 : w7.cell? ⟨go, 1, none⟩ = some (.slice A6 s2.length c6) := (blk_cell BO7.out 1).trans rfl; clear hblk hgrw) | ((with_reducible refine gate_ (.store 44 (.tmp 2) (.tmp 12)) rfl ?_); refine store_blk rfl rfl 44 (.tmp 2) (.tmp 12) rfl (off := 0) (u := .agg #[.slice A4 s1.length c4, .slice A6 s2.length c6]) #[.slice A4 s1.length c4, .slice A6 s2.length c6] rfl rfl BR7.out [.slice A4 s1.length c4, .slice A6 s2.length c6] rfl (by kernel_rfl) (Nat.le_of_ble_eq_true rfl) rfl rfl ?_; intro w8 hblk hgrw; have BR8 := Aside0.mk hblk; have HB8 := Aside0.mk (HB7.out.grown hgrw HB7.out.size (by intro q hq; cases hq; exact GR.out)); have HP8 := Aside0.mk (Kd.S_grown HP7.out hgrw (fun q hq e => hq.2 (Option.some.inj e))); have HQ8 := Aside0.mk (Kd.S_grown HQ8a.out hgrw (fun q hq e => by cases e; exact absurd hq (Nat.not_le.mpr HNR.out))); clear hblk hgrw))
  refine bodyPost_ret (results_cell_row rfl _ _ gr 44 #[.slice A4 s1.length c4, .slice A6 s2.length c6] (0, 0) _ rfl BR8.out Try.underlying44 rfl (by kernel_rfl)) rfl ?_
  exact ⟨_, _, _, _, rfl, ⟨fun q h1 h2 => by have := h1.1.1; omega, HP8.out, HQ8.out⟩, HB8.out⟩
end Go.Proofs.Ytlopmffdebhpfaa.G

/-! ## MarkD -/
namespace Go.Proofs.Ytlopmffdebhpfaa.G
open Go.RowKit Go.Proofs.YtlopmffdebhpfaaW.PrintWords Go.Proofs.YtlopmffdebhpfaaW.PrintLast Go.Proofs.YtlopmffdebhpfaaW.PrintMore
set_option linter.unusedVariables false
set_option linter.unusedSimpArgs false

set_option maxHeartbeats 4000000 in
set_option maxRecDepth 100000 in
theorem laws_markDisk.calls (P Q : Nat → Prop) (v0 v1 : Value) (r1 : List (List Int)) (r2 : List S185) (m : Int) (w0 w : World) (hB : Below w0.heap.size w0 w) (hD : IsDisk w w0.heap.size P Q v0 v1 r1 r2) (h0 : 0 ≤ m) (h1 : m + totL r1 + totP r2 ≤ 4611686018427387904) :
    Calls Try.prog 29 #[.agg #[v0, v1], .int .i64 m] w fun e w' => e = .returned (.int .i64 (m + totL r1 + totP r2)) ∧ IsDisk w' w0.heap.size P Q v0 v1 (mkSS r1 m) (mkPS r2 (m + totL r1)) ∧ Below w0.heap.size w0 w' ∧ Kept w w' (fun q => P q ∨ Q q) := by
  have hu44 := Try.underlying44
  obtain ⟨hap, hs0, hs1⟩ := hD
  obtain ⟨A0, c0, rfl⟩ := Kd.S_slice hs0
  obtain ⟨A1, c1, rfl⟩ := Kd.S_slice hs1
  have HP := Aside0.mk (Kd.S_mono (Kd.S_bound hs0) (ok' := fun q => P q ∧ q < w.heap.size) (fun q hq => ⟨hq.1, hq.2.2.1⟩))
  have HQ := Aside0.mk (Kd.S_mono (Kd.S_bound hs1) (ok' := fun q => Q q ∧ q < w.heap.size) (fun q hq => ⟨hq.1, hq.2.2.1⟩))
  have HAP := Aside0.mk hap
  have HB := Aside0.mk hB
  have HM0 := Aside0.mk h0
  have HM1 := Aside0.mk h1
  clear hap hs0 hs1 hB h0 h1
  go_enter Try.func29, Try.ntmps29
  go_wp2_with (first | ((with_reducible refine gate_dst (N := 2) rfl ?_); refine box_event ?hg (N := 2) ?hd (cs := #[.slice A0 r1.length c0, .slice A1 r2.length c1]) (t := 44) ?hr ?_; (case hd => rfl); (case hg => rfl); (case hr => first | (go_simp; done) | (go_simp; rfl)); intro gp hgr w1 hbox hbel; have BP := Aside0.mk hbox; have GP := Aside0.mk hgr; have HL := Aside0.mk hbel; have HB1 := Aside0.mk (below_step HB.out hbel); have hp0 : w1.cell? ⟨gp, 0, none⟩ = some (.slice A0 r1.length c0) := (blk_cell hbox 0).trans rfl; have hp1 : w1.cell? ⟨gp, 1, none⟩ = some (.slice A1 r2.length c1) := (blk_cell hbox 1).trans rfl; clear hbox hbel hgr))
  refine (laws_markByteSS.calls (fun q => P q ∧ q < w.heap.size) (.slice A0 r1.length c0) r1 m w0 _ HB1.out (Kd.S_below HP.out HL.out) HM0.out (by have := HM0.out; have := HM1.out; omega)).mono ?_
  rintro e w2 ⟨rfl, hs, hb, hk⟩
  have HP2 := Aside0.mk hs
  have HB2 := Aside0.mk hb
  have BP2 := Aside0.mk (show w2.heap[gp]? = some (.cells #[.slice A0 r1.length c0, .slice A1 r2.length c1] 44 (0, 0)) from (hk.2 gp (blk_lt BP.out) (fun h => by have := h.2; have := GP.out; omega)).trans BP.out)
  have HQ2 := Aside0.mk (Kd.S_step (Kd.S_below HQ.out HL.out) (w1 := w2) (fun q hq hlt => hk.2 q hlt (fun h => HAP.out q h.1 hq.1)))
  have HK2 := Aside0.mk (show Kept w w2 (fun q => P q ∨ Q q) from keptTrans (Kept.of_below HL.out (fun q => P q ∨ Q q)) (hk.mono (fun q h => .inl h.1)) (fun q h => h))
  clear hs hb hk HB1 BP HL HP HQ hp0 hp1
  have hp1 : w2.cell? ⟨gp, 1, none⟩ = some (.slice A1 r2.length c1) := (blk_cell BP2.out 1).trans rfl
  go_wp2_with fail
  refine (laws_markPendS.calls (fun q => Q q ∧ q < w.heap.size) (.slice A1 r2.length c1) r2 (m + totL r1) w0 _ HB2.out HQ2.out (by have := HM0.out; omega) (by have := HM1.out; omega)).mono ?_
  rintro e w3 ⟨rfl, hs, hb, hk⟩
  have HQ3 := Aside0.mk (Kd.S_mono hs (ok' := Q) (fun q hq => hq.1))
  have HP3 := Aside0.mk (Kd.S_mono (Kd.S_step HP2.out (w1 := w3) (fun q hq hlt => hk.2 q hlt (fun h => HAP.out q hq.1 h.1))) (ok' := P) (fun q hq => hq.1))
  have HB3 := Aside0.mk hb
  have HK3 := Aside0.mk (keptTrans HK2.out hk (fun q h => .inr h.1))
  clear hs hb hk
  go_wp2_with fail
  go_ret
  exact ⟨rfl, ⟨HAP.out, HP3.out, HQ3.out⟩, HB3.out, HK3.out⟩
end Go.Proofs.Ytlopmffdebhpfaa.G

/-! ## LMap -/
namespace Go.Proofs.Ytlopmffdebhpfaa.G
open Go.RowKit Go.Maps Go.Proofs.YtlopmffdebhpfaaW.PrintWords Go.Proofs.YtlopmffdebhpfaaW.PrintLast Go.Proofs.YtlopmffdebhpfaaW.PrintMore
/-- Block b is a map of at most n entries that reads as m. -/
def LMap (w : World) (b n : Nat) (m : Int → Option Int) : Prop :=
  ∃ D : DataW Unit, w.ownsMap Try.prog 3 (plainElem Try.prog 3) b n D ∧ Maps.IsMap D ∧ ∀ x, Maps.has D (.int .i64 x) = (m x).isSome ∧ ∀ c, m x = some c → D.atKey (.int .i64 x) (.lit (.int .i64 0)) = .lit (.int .i64 c)
theorem lawInt : Keyed Try.prog 3 := int_keyed Try.underlying3
theorem zeroInt (w : World) : (zeroValue 3).run Try.prog w = .ok (.int .i64 0) w := by kernel_rfl
theorem LMap_lt {w : World} {b n : Nat} {m : Int → Option Int} (h : LMap w b n m) : b < w.heap.size := by
  obtain ⟨D, h, _⟩ := h
  exact h.lt
theorem LMap_made (w : World) : LMap (w.alloc (.map #[] 0)) w.heap.size 0 (fun _ => none) :=
  ⟨.map [], World.ownsMap_made _ _ _ _, Maps.isMap_empty, fun x => ⟨rfl, fun c h => by cases h⟩⟩
theorem LMap_step {w w1 : World} {b n : Nat} {m : Int → Option Int} (h : LMap w b n m) (hb : w1.heap[b]? = w.heap[b]?) : LMap w1 b n m := by
  obtain ⟨D, ⟨es, clock, h1, h2⟩, h3⟩ := h
  exact ⟨D, ⟨es, clock, hb.trans h1, h2⟩, h3⟩
theorem LMap_put {w : World} {b n : Nat} {m : Int → Option Int} (h : LMap w b n m) (hn : n < maxLen) {x c : Int} (hx : (Lit.int .i64 x).wf = true) (hc : (Lit.int .i64 c).wf = true) :
    ∃ w1, (Instr.mapUpdate 157 (.map (some b)) (.int .i64 x) (.int .i64 c)).run Try.prog w = .ok () w1 ∧ LMap w1 b (n + 1) (fun y => if y = x then some c else m y) ∧ w.grownBy w1 (some b) := by
  obtain ⟨D, ho, hM, hD⟩ := h
  have hkey := keyOf_int_mk Try.underlying3 hx
  obtain ⟨w1, hrun, h1, h2⟩ := ho.update lawInt Try.underlying157 hn hkey (plainElem_int Try.underlying3 hc)
  refine ⟨w1, hrun, ⟨_, h1, hM.put _ _, fun y => ?_⟩, h2⟩
  by_cases hy : y = x
  · subst hy
    have hk : WideAt.IsKeyLit (.int .i64 y) := by first | trivial | exact rfl | simp [WideAt.IsKeyLit]
    dsimp only
    rw [if_pos rfl]
    refine ⟨Maps.has_put_same hM hk _, fun c' hc' => ?_⟩
    obtain rfl := Option.some.inj hc'
    exact Maps.atKey_put_same hM hk _ _
  · have hne : (Lit.int .i64 y) ≠ (Lit.int .i64 x) := fun e => hy (by injection e)
    dsimp only
    rw [if_neg hy, Maps.has_put_other hne, Maps.atKey_put_other hne]
    exact hD y
theorem LMap_look {w : World} {b n : Nat} {m : Int → Option Int} (h : LMap w b n m) {x : Int} (hx : (Lit.int .i64 x).wf = true) :
    ∃ v, (Instr.lookup 157 (.map (some b)) (.int .i64 x) true).run Try.prog w = .ok (.tuple #[.int .i64 v, .bool (m x).isSome]) w ∧ ∀ c, m x = some c → v = c := by
  obtain ⟨D, ho, hM, hD⟩ := h
  have hkey := keyOf_int_mk Try.underlying3 hx
  obtain ⟨v, ps, hrun, hv⟩ := ho.look_ok lawInt Try.underlying157 (zeroInt w) (plainElem_int Try.underlying3 (by decide)) hkey
  obtain ⟨c, rfl, hc, _⟩ := plainElem_int_inv Try.underlying3 hv
  rw [(hD x).1] at hrun
  refine ⟨c, hrun, fun c' hc' => ?_⟩
  have h1 := (hD x).2 c' hc'
  have h2 := congrArg Prod.fst hc
  rw [h1] at h2
  simp at h2
  exact h2.symm
end Go.Proofs.Ytlopmffdebhpfaa.G

/-! ## LSet -/
namespace Go.Proofs.Ytlopmffdebhpfaa.G
open Go.RowKit Go.Maps Go.Proofs.YtlopmffdebhpfaaW.PrintWords Go.Proofs.YtlopmffdebhpfaaW.PrintLast Go.Proofs.YtlopmffdebhpfaaW.PrintMore
set_option linter.unusedVariables false
/-- Block b is a map of at most n entries whose members are l. -/
def LSet (w : World) (b n : Nat) (l : List Int) : Prop :=
  ∃ D : DataW Unit, w.ownsMap Try.prog 3 (plainElem Try.prog 4) b n D ∧ Maps.IsMap D ∧ ∀ x, D.atKey (.int .i64 x) (.lit (.bool false)) = .lit (.bool (decide (x ∈ l)))
theorem elem_bool_inv {P : Program} {e : TypeId} (he : P.underlying e = some .bool) {v : Value} {z : DataW Unit × List MemPlace} (h : plainElem P e v = some z) : ∃ a, v = .bool a ∧ z = (.lit (.bool a), []) := by
  unfold plainElem at h
  rw [he] at h
  cases v <;> simp at h
  exact ⟨_, rfl, h.symm⟩
theorem zeroBool (w : World) : (zeroValue 4).run Try.prog w = .ok (.bool false) w := by kernel_rfl
theorem LSet_lt {w : World} {b n : Nat} {l : List Int} (h : LSet w b n l) : b < w.heap.size := by
  obtain ⟨D, h, _⟩ := h
  exact h.lt
theorem LSet_made (w : World) : LSet (w.alloc (.map #[] 0)) w.heap.size 0 [] :=
  ⟨.map [], World.ownsMap_made _ _ _ _, Maps.isMap_empty, fun x => by simp [DataW.atKey]⟩
theorem LSet_step {w w1 : World} {b n : Nat} {l : List Int} (h : LSet w b n l) (hb : w1.heap[b]? = w.heap[b]?) : LSet w1 b n l := by
  obtain ⟨D, ⟨es, clock, h1, h2⟩, h3⟩ := h
  exact ⟨D, ⟨es, clock, hb.trans h1, h2⟩, h3⟩
theorem LSet_ne {w : World} {b n : Nat} {l : List Int} (h : LSet w b n l) {v : Value} {e : Nat} (hty : ∀ k, v.ownBlock = some k → ∃ cells, w.heap[k]? = some (.cells cells e (0, 0))) : some b ≠ v.ownBlock := fun he => by
  obtain ⟨D, ⟨es, clock, h1, _⟩, _⟩ := h
  obtain ⟨cells, hc⟩ := hty b he.symm
  rw [h1] at hc
  cases hc
theorem LSet_neb {w : World} {b n : Nat} {l : List Int} (h : LSet w b n l) {g e : Nat} {cs : Array Value} (hg : w.heap[g]? = some (.cells cs e (0, 0))) : g ≠ b := fun he => by
  obtain ⟨D, ⟨es, clock, h1, _⟩, _⟩ := h
  rw [he, h1] at hg
  cases hg
theorem LSet_put {w : World} {b n : Nat} {l : List Int} (h : LSet w b n l) (hn : n < maxLen) {x : Int} (hx : (Lit.int .i64 x).wf = true) :
    ∃ w1, (Instr.mapUpdate 203 (.map (some b)) (.int .i64 x) (.bool true)).run Try.prog w = .ok () w1 ∧ LSet w1 b (n + 1) (l ++ [x]) ∧ w.grownBy w1 (some b) := by
  obtain ⟨D, ho, hM, hD⟩ := h
  have hkey := keyOf_int_mk Try.underlying3 hx
  obtain ⟨w1, hrun, h1, h2⟩ := ho.update lawInt Try.underlying203 hn hkey (plainElem_bool Try.underlying4 true)
  refine ⟨w1, hrun, ⟨_, h1, hM.put _ _, fun y => ?_⟩, h2⟩
  by_cases hy : y = x
  · subst hy
    have hk : WideAt.IsKeyLit (.int .i64 y) := by first | trivial | exact rfl | simp [WideAt.IsKeyLit]
    rw [Maps.atKey_put_same hM hk _ _]
    simp
  · have hne : (Lit.int .i64 y) ≠ (Lit.int .i64 x) := fun e => hy (by injection e)
    rw [Maps.atKey_put_other hne, hD y]
    simp [hy]
theorem LSet_look {w : World} {b n : Nat} {l : List Int} (h : LSet w b n l) {x : Int} (hx : (Lit.int .i64 x).wf = true) :
    (Instr.lookup 203 (.map (some b)) (.int .i64 x) false).run Try.prog w = .ok (.bool (decide (x ∈ l))) w := by
  obtain ⟨D, ho, hM, hD⟩ := h
  have hkey := keyOf_int_mk Try.underlying3 hx
  obtain ⟨v, ps, hrun, hv⟩ := ho.lookup lawInt Try.underlying203 (zeroBool w) (plainElem_bool Try.underlying4 false) hkey
  rw [hD x] at hv
  obtain ⟨a, hva, ha⟩ := elem_bool_inv (P := Try.prog) (e := 4) Try.underlying4 (v := v) hv
  subst hva
  have h2 := congrArg Prod.fst ha
  simp only [DataW.lit.injEq, Lit.bool.injEq] at h2
  rw [hrun, h2]
section
variable {P : Program} {ops : Array Oper} {rest : List Oper} {o : Oper} {a : Act} {Q : Exit → Act → World → Prop}
theorem set_event {W : World} (hgd : o.guard = none) {N : Tmp} (_hd : o.dst = some N) (t : TypeId) (ho : o.op = .makeMap t none)
    (h : ∀ b, b = W.heap.size → ∀ w1, LSet w1 b 0 [] → Below W.heap.size W w1 → wpList P ops Q rest (a.put o.dst (.map (some b))) w1) : wpList P ops Q (o :: rest) a W := by
  refine Kd.event_run hgd (v := .map (some W.heap.size)) (w1 := W.alloc (.map #[] 0)) ?_ (h _ rfl _ (LSet_made W) (below_alloc (Below.refl _ _) _))
  simp [execOp, ho, run_makeMap]
end
section
variable {α : Type} {d : Kd α} {e base g b n : Nat} {w w1 : World} {ok : Nat → Prop} {v : Value} {xs : List α} {l : List Int}
/-- A block of another type is written. -/
theorem R_off (h : d.R e w base ok v xs) {t : Nat} {cells : Array Value} (hb : w.heap[g]? = some (.cells cells t (0, 0))) (ht : ∀ q, q ∈ e :: d.E → q ≠ t) (hg : w.grownBy w1 (some g)) : d.R e w1 base ok v xs :=
  Kd.R_mono (Kd.R_grown (Kd.R_types h hb ht) hg (fun q hq he => hq.2 (Option.some.inj he))) (fun _ hq => hq.1)
/-- The set is written. -/
theorem R_set (h : d.R e w base ok v xs) (hs : LSet w b n l) (hg : w.grownBy w1 (some b)) : d.R e w1 base ok v xs :=
  Kd.R_mono (Kd.R_grown (Kd.R_bound h) hg (fun _ hq he => by
    obtain ⟨_, _, _, _, _, cells, hc⟩ := hq
    obtain ⟨D, ⟨es, clock, h1, _⟩, _⟩ := hs
    rw [Option.some.inj he, h1] at hc
    cases hc)) (fun _ hq => hq.1)
theorem LSet_grown (h : LSet w b n l) {row : Option Nat} (hg : w.grownBy w1 row) (hne : some b ≠ row) : LSet w1 b n l := LSet_step h (hg.block b (LSet_lt h) hne)
end
theorem cut_lo {P : Program} (t e : TypeId) (kl : IntKind) {i : TypeInfo} (ht : P.underlying t = some (.slice e)) (hi : P.info? e = some i) (hsz : i.size = 1) (A : Option Addr) (n c m : Nat) (hm : m ≤ n) (W : World) :
    (Instr.slice t (.slice A n c) (some (.int kl (m : Int))) none none).run P W = .ok (.slice (if c = m then A else A.map (·.add m)) (n - m) (c - m)) W := by
  have hel : P.elem t = e := by simp [Program.elem, ht]
  have hu : P.underlying t = some (.slice (P.elem t)) := by rw [hel]; exact ht
  rw [run_slice_l W t A n c hu kl (m : Int) (Int.natCast_nonneg _) (by omega), hel]
  simp [sizeOf, typeInfo, hi, hsz, sliced, Result.andThen]
end Go.Proofs.Ytlopmffdebhpfaa.G

/-! ## LawL -/
namespace Go.Proofs.Ytlopmffdebhpfaa.G
open Go.RowKit Go.Proofs.YtlopmffdebhpfaaW.PrintWords Go.Proofs.YtlopmffdebhpfaaW.PrintLast Go.Proofs.YtlopmffdebhpfaaW.PrintMore
set_option linter.unusedVariables false
/-- The blocks of S are of the types T. -/
def Ty (w : World) (S : Nat → Prop) (T : List Nat) : Prop := ∀ q, S q → ∃ t, t ∈ T ∧ ∃ cells, w.heap[q]? = some (.cells cells t (0, 0))
section
variable {w w1 : World} {base g g' t t' : Nat} {cs cs' : Array Value} {P Q S : Nat → Prop} {T : List Nat} {v0 v1 : Value} {r1 : List (List Int)} {r2 : List S185}
theorem blk_type (h : w.heap[g]? = some (.cells cs t (0, 0))) (h' : w.heap[g]? = some (.cells cs' t' (0, 0))) : t = t' := by
  rw [h] at h'
  injection h' with h'
  injection h' with _ h'
theorem blk_off (h : w.heap[g]? = some (.cells cs t (0, 0))) (hb : w.heap[g']? = some (.cells cs' t' (0, 0))) (ht : t ≠ t') (hg : w.grownBy w1 (some g')) : w1.heap[g]? = some (.cells cs t (0, 0)) :=
  blk_grown h hg (fun e => ht (by rw [← Option.some.inj e] at hb; exact blk_type h hb))
theorem D_off (h : IsDisk w base P Q v0 v1 r1 r2) (hb : w.heap[g]? = some (.cells cs t (0, 0))) (ht : (∀ q, q ∈ [22, 5] → q ≠ t) ∧ ∀ q, q ∈ [185, 5] → q ≠ t) (hg : w.grownBy w1 (some g)) : IsDisk w1 base P Q v0 v1 r1 r2 :=
  ⟨h.1, Kd.S_mono (Kd.S_grown (Kd.S_types h.2.1 hb ht.1) hg (fun q hq e => hq.2 (Option.some.inj e))) (fun _ hq => hq.1), Kd.S_mono (Kd.S_grown (Kd.S_types h.2.2 hb ht.2) hg (fun q hq e => hq.2 (Option.some.inj e))) (fun _ hq => hq.1)⟩
theorem D_drew (h : IsDisk w base P Q v0 v1 r1 r2) : IsDisk w.drew base P Q v0 v1 r1 r2 := ⟨h.1, Kd.S_drew h.2.1, Kd.S_drew h.2.2⟩
theorem D_lower {base' : Nat} (h : IsDisk w base P Q v0 v1 r1 r2) (hb : base' ≤ base) : IsDisk w base' P Q v0 v1 r1 r2 := ⟨h.1, Kd.S_lower h.2.1 hb, Kd.S_lower h.2.2 hb⟩
/-- A disk's sets of blocks, as small as its types tell. -/
theorem D_tight (h : IsDisk w base P Q v0 v1 r1 r2) : ∃ P' Q', IsDisk w base P' Q' v0 v1 r1 r2 ∧ Ty w (fun q => P' q ∨ Q' q) [22, 5, 185] ∧ ∀ q, P' q ∨ Q' q → (P q ∨ Q q) ∧ base ≤ q ∧ q < w.heap.size := by
  refine ⟨_, _, ⟨fun q h1 h2 => h.1 q h1.1 h2.1, Kd.S_bound h.2.1, Kd.S_bound h.2.2⟩, fun q hq => ?_, fun q hq => ?_⟩
  · rcases hq with ⟨_, _, _, t, ht, hc⟩ | ⟨_, _, _, t, ht, hc⟩
    · exact ⟨t, by simp [Kd.slice, Kd.int, Kd.scalar] at ht; simp; omega, hc⟩
    · exact ⟨t, by simp [k185, Kd.iso, Kd.pair, Kd.slice, Kd.int, Kd.scalar] at ht; simp; omega, hc⟩
  · rcases hq with ⟨h1, h2, h3, _⟩ | ⟨h1, h2, h3, _⟩
    · exact ⟨.inl h1, h2, h3⟩
    · exact ⟨.inr h1, h2, h3⟩
theorem blk_keptT (h : w.heap[g]? = some (.cells cs t (0, 0))) (hk : Kept w w1 S) (hT : Ty w S T) (ht : t ∉ T) : w1.heap[g]? = some (.cells cs t (0, 0)) :=
  blk_kept h hk (fun hs => by
    obtain ⟨t', h1, cells, hc⟩ := hT g hs
    exact ht (by rw [blk_type h hc]; exact h1))
theorem R_keptT {α : Type} {d : Kd α} {e : Nat} {ok : Nat → Prop} {v : Value} {xs : List α} (h : d.R e w base ok v xs) (hk : Kept w w1 S) (hT : Ty w S T) (ht : ∀ q, q ∈ e :: d.E → q ∉ T) : d.R e w1 base ok v xs :=
  Kd.R_mono (Kd.R_kept (Kd.R_bound h) hk (fun q hq hs => by
    obtain ⟨_, _, _, t, h1, cells, hc⟩ := hq
    obtain ⟨t', h2, cells', hc'⟩ := hT q hs
    exact ht t h1 (by rw [blk_type hc hc']; exact h2))) (fun _ hq => hq.1)
/-- The one block of a row of plain elements. -/
theorem Ty_own {α : Type} {d : Kd α} {e : Nat} {ok : Nat → Prop} {v : Value} {xs : List α} (h : d.R e w base ok v xs) : Ty w (fun q => some q = v.ownBlock) [e] := fun q hq => ⟨e, List.mem_singleton_self e, Kd.R_typed h q hq.symm⟩
end
end Go.Proofs.Ytlopmffdebhpfaa.G

/-! ## Mu -/
namespace Go.Proofs.Ytlopmffdebhpfaa.G
open Go.Proofs
abbrev muLink : Go.Conc.Locks.MuLink := { lock := 139, unlock := 140, ilock := 163, iunlock := 164, lockSlow := 182, unlockSlow := 185, disable := 178, enable := 180, acquire := 181, relMerge := 183, cas32 := 179, add32 := 184, tMutex := 156, tIMutex := 154, tPMutex := 216, tPIMutex := 225, tPI32 := 227, tUP := 229, tNoCopy := 151, tU32 := 152 }
theorem muLib : Go.Conc.Locks.MuLib Try.prog muLink :=
  ⟨Try.func139, Try.func140, Try.func163, Try.func164, Try.func178, Try.func180, Try.func181, Try.func183, Try.func179, Try.func184, Try.underlying154, Try.runUnderlying154, Try.sizeOf154, Try.isAgg154, Try.zeroValue154, Try.underlying156, Try.runUnderlying156, Try.sizeOf156, Try.isAgg156, Try.zeroValue156, Try.underlying216, Try.runUnderlying216, Try.sizeOf216, Try.isAgg216, Try.zeroValue216, Try.underlying225, Try.runUnderlying225, Try.sizeOf225, Try.isAgg225, Try.zeroValue225, Try.underlying227, Try.runUnderlying227, Try.sizeOf227, Try.isAgg227, Try.zeroValue227, Try.underlying229, Try.runUnderlying229, Try.sizeOf229, Try.isAgg229, Try.zeroValue229, Try.underlying151, Try.runUnderlying151, Try.sizeOf151, Try.isAgg151, Try.zeroValue151, Try.underlying21, Try.runUnderlying21, Try.sizeOf21, Try.isAgg21, Try.zeroValue21, (by kernel_rfl)⟩
end Go.Proofs.Ytlopmffdebhpfaa.G

/-! ## Dev -/
namespace Go.Proofs.Ytlopmffdebhpfaa.G
open Go.RowKit Go.Proofs.YtlopmffdebhpfaaW.PrintWords Go.Proofs.YtlopmffdebhpfaaW.PrintLast Go.Proofs.YtlopmffdebhpfaaW.PrintMore
set_option linter.unusedVariables false
set_option linter.unusedSimpArgs false

/-- For each sector the number of its last pending write. -/
def lastM (ps : List S185) : Int → Option Int := ps.zipIdx.foldl (fun m p => fun y => if y = p.1.f0 then some (p.2 : Int) else m y) (fun _ => none)
theorem lastM_nil : lastM [] = fun _ => none := rfl
theorem lastM_snoc (ps : List S185) (p : S185) : lastM (ps ++ [p]) = fun y => if y = p.f0 then some (ps.length : Int) else lastM ps y := by
  unfold lastM
  rw [List.zipIdx_append, List.foldl_append]
  simp
/-- Block g is a device that nobody has locked, b its map. -/
def IsDev (w : World) (g b : Nat) (A0 : Option Addr) (n0 c0 : Nat) (A1 : Option Addr) (n1 c1 : Nat) : Prop :=
  w.heap[g]? = some (.cells #[.int .i32 0, .int .u32 0, .slice A0 n0 c0, .slice A1 n1 c1, .map (some b)] 159 (0, 0))
section
variable {P : Program} {ops : Array Oper} {rest : List Oper} {o : Oper} {a : Act} {Q : Exit → Act → World → Prop}
theorem map_event {W : World} (hgd : o.guard = none) {N : Tmp} (_hd : o.dst = some N) (t : TypeId) (ho : o.op = .makeMap t none)
    (h : ∀ b, b = W.heap.size → ∀ w1, LMap w1 b 0 (fun _ => none) → Below W.heap.size W w1 → wpList P ops Q rest (a.put o.dst (.map (some b))) w1) : wpList P ops Q (o :: rest) a W := by
  refine Kd.event_run hgd (v := .map (some W.heap.size)) (w1 := W.alloc (.map #[] 0)) ?_ (h _ rfl _ (LMap_made W) (below_alloc (Below.refl _ _) _))
  simp [execOp, ho, run_makeMap]
theorem map_put_step {W : World} {K : Act → World → Prop} (hw : Region.wanted o (yielded ops a.tmps) = true) (hN : o.dst = none) (m x v : Operand) (ho : o.op = .mapUpdate 157 m x v) {b n : Nat} {f : Int → Option Int} {y c : Int}
    (hm : a.eval m = .map (some b)) (hx : a.eval x = .int .i64 y) (hv : a.eval v = .int .i64 c) (hl : LMap W b n f) (hn : n < maxLen) (hy : (Lit.int .i64 y).wf = true) (hc : (Lit.int .i64 c).wf = true)
    (h : ∀ w1, LMap w1 b (n + 1) (fun z => if z = y then some c else f z) → W.grownBy w1 (some b) → K a w1) : if Region.wanted o (yielded ops a.tmps) = true then Oper.wp Try.prog o a W K Q else K (a.put none undef) W := by
  obtain ⟨w1, hr, h1, h2⟩ := LMap_put hl hn hy hc
  rw [if_pos hw]
  unfold Oper.wp
  simp [execOp, ho, hm, hx, hv, hr, Result.andThen]
  show K (a.put o.dst undef) w1
  rw [hN]
  exact h _ h1 h2
end

def impl_deviceOf.T5 : Bool × List (List Nat × List Nat) := (true, [([], []), ([0], [0]), ([1], [1]), ([2], [2]), ([], []), ([4], [4]), ([], []), ([3, 5, 6, 0, 1, 2, 3, 4, 5, 6], [3, 5, 6])])
def impl_deviceOf.B5 : List Nat := [0, 1, 3, 7, 0, 16, 0, 127]
theorem impl_deviceOf.tab5 : rtab .any (opsOf Try.f88 5) = impl_deviceOf.T5 := by kernel_rfl
theorem impl_deviceOf.bits5 : waitsOk impl_deviceOf.T5.2 impl_deviceOf.B5 = true := by kernel_rfl
set_option maxHeartbeats 4000000 in
set_option maxRecDepth 100000 in
theorem impl_deviceOf.calls (A0 : Option Addr) (n0 c0 : Nat) (A1 : Option Addr) (c1 : Nat) (ps : List S185) (w : World) (hr1 : Kd.C k185 w A1 ps.length ps) (hc1 : ps.length ≤ c1) (hwf : ∀ p ∈ ps, (Lit.int .i64 p.f0).wf = true) :
    Calls Try.prog 88 #[.agg #[.slice A0 n0 c0, .slice A1 ps.length c1]] w fun e w' => ∃ g b, e = .returned (.pointer (some ⟨g, 0, none⟩)) ∧ IsDev w' g b A0 n0 c0 A1 ps.length c1 ∧ LMap w' b ps.length (lastM ps) ∧ w.heap.size ≤ g ∧ w.heap.size ≤ b ∧ g ≠ b ∧ Below w.heap.size w w' := by
  have hu44 := Try.underlying44
  have hu159 := Try.underlying159
  have hu185 := Try.underlying185
  have HR := Aside0.mk hr1
  have HC := Aside0.mk hc1
  have HW := Aside0.mk hwf
  have HX : Aside0 (ps.length ≤ 9223372036854775807) := ⟨hr1.2.1⟩
  clear hr1 hc1 hwf
  go_enter Try.func88, Try.ntmps88
  go_wp2_with (first | ((with_reducible refine gate_dst (N := 1) rfl ?_); refine box_event ?hg (N := 1) ?hd (cs := #[.slice A0 n0 c0, .slice A1 ps.length c1]) (t := 44) ?hr ?_; (case hd => rfl); (case hg => rfl); (case hr => first | (go_simp; done) | (go_simp; rfl)); intro gd hgr w1 hbox hbel; have BD := Aside0.mk hbox; have HB := Aside0.mk hbel; have GD : Aside0 (w.heap.size ≤ gd) := ⟨Nat.le_of_eq hgr.symm⟩; have hd0 : w1.cell? ⟨gd, 0, none⟩ = some (.slice A0 n0 c0) := (blk_cell hbox 0).trans rfl; have hd1 : w1.cell? ⟨gd, 1, none⟩ = some (.slice A1 ps.length c1) := (blk_cell hbox 1).trans rfl; clear hbox hbel hgr) | ((with_reducible refine gate_dst (N := 7) rfl ?_); refine map_event ?hg (N := 7) ?hd 157 ?ho ?_; (case hd => rfl); (case hg => rfl); (case ho => rfl); intro b hb w2 hmap hbel; have LM := Aside0.mk hmap; have HB2 := Aside0.mk (below_step HB.out hbel); have BD1 := Aside0.mk (blk_below BD.out hbel); have GM : Aside0 (w.heap.size ≤ b) := ⟨by rw [hb]; exact HB.out.size⟩; clear hb hmap hbel) | ((with_reducible refine gate_dst (N := 9) rfl ?_); refine box_event ?hg (N := 9) ?hd (cs := #[.int .i32 0, .int .u32 0, .slice A0 n0 c0, .slice A1 ps.length c1, .map (some b)]) (t := 159) ?hr ?_; (case hd => rfl); (case hg => rfl); (case hr => first | (go_simp; done) | (go_simp; rfl)); intro gv hgr w3 hbox hbel; have BV : Aside0 (IsDev w3 gv b A0 n0 c0 A1 ps.length c1) := ⟨hbox⟩; have HB3 := Aside0.mk (below_step HB2.out hbel); have LM2 := Aside0.mk (LMap_step LM.out (hbel.block b (LMap_lt LM.out))); have BD2 := Aside0.mk (blk_below BD1.out hbel); have GV : Aside0 (w.heap.size ≤ gv) := ⟨by rw [hgr]; exact HB2.out.size⟩; have NVM : Aside0 (gv ≠ b) := ⟨by have := LMap_lt LM.out; omega⟩; have hd0 : w3.cell? ⟨gd, 0, none⟩ = some (.slice A0 n0 c0) := (blk_cell BD2.out 0).trans rfl; have hd1 : w3.cell? ⟨gd, 1, none⟩ = some (.slice A1 ps.length c1) := (blk_cell BD2.out 1).trans rfl; clear hbox hbel hgr))
  go_loopg [13] ps.length (fun gk v13 w' => ∃ x : Int, v13 = .int .i64 x ∧ Aside0 (0 ≤ x ∧ (gk : Int) + x = (ps.length : Int)) ∧ Aside0 (w'.heap[gd]? = some (.cells #[.slice A0 n0 c0, .slice A1 ps.length c1] 44 (0, 0))) ∧ Aside0 (IsDev w' gv b A0 n0 c0 A1 ps.length c1) ∧ Aside0 (LMap w' b x.toNat (lastM (ps.take x.toNat))) ∧ Aside0 (Below w.heap.size w w'))
  case atStart =>
    exact ⟨0, rfl, ⟨by omega⟩, BD2, BV, LM2, HB3⟩
  case round =>
    clear BD2 BV LM2 HB3
    obtain ⟨x, rfl, HXK, BD, BV, LM, HB⟩ := hrel
    cases gk with
    | zero =>
      have hx : x = (ps.length : Int) := by have := HXK.out; omega
      subst hx
      have c4b0 : decide ((ps.length : Int) < (ps.length : Int)) = false := decide_eq_false (by omega)
      have LM2 := LM.out
      rw [Int.toNat_natCast, List.take_length] at LM2
      go_wp2_with fail
      go_ret
      exact ⟨gv, b, rfl, BV.out, LM2, GV.out, GM.out, NVM.out, HB.out⟩
    | succ gk =>
      have p0 : 0 ≤ x := HXK.out.1
      have q0 : x < (ps.length : Int) := by have := HXK.out; omega
      have c4b0 : decide (x < (ps.length : Int)) = true := decide_eq_true q0
      have c4b1 : decide (0 ≤ x) = true := decide_eq_true p0
      obtain ⟨ad, A5, c5, e5, hx0, hx1, hl5, hi5⟩ := at_T185 HR.out x p0 q0
      cases e5
      replace hx0 := (HB.out.cell (World.block_lt_of_cell? w _ hx0)).trans hx0
      replace hx1 := (HB.out.cell (World.block_lt_of_cell? w _ hx1)).trans hx1
      clear hl5 hi5
      have HP0 := Aside0.mk p0
      have HQ0 := Aside0.mk q0
      have hel : Aside0 (ps.take (x.toNat + 1) = ps.take x.toNat ++ [rd_T185 ps x]) := ⟨by
        have hq : x.toNat < ps.length := by omega
        rw [List.take_add_one, List.getElem?_eq_getElem hq]
        simp [rd_T185, List.getD_eq_getElem?_getD, List.getElem?_eq_getElem hq]⟩
      have hwx : Aside0 ((Lit.int .i64 (rd_T185 ps x).f0).wf = true) := ⟨HW.out _ (by
        have hq : x.toNat < ps.length := by omega
        simp only [rd_T185, List.getD_eq_getElem?_getD, List.getElem?_eq_getElem hq, Option.getD_some]
        exact List.getElem_mem hq)⟩
      replace p0 := eq_true p0
      replace q0 := eq_true q0
      go_wp2_with (first | ((with_reducible refine gate_dst (N := 5) rfl ?_); refine box_event ?hg (N := 5) ?hd (cs := #[.int .i64 0, .slice none 0 0]) (t := 185) ?hr ?_; (case hd => rfl); (case hg => rfl); (case hr => first | (go_simp; done) | (go_simp; rfl)); intro gp hgr w4 hbox hbel; have BP0 := Aside0.mk hbox; have S4 : Aside0 (w4.heap[gd]? = some (.cells #[.slice A0 n0 c0, .slice (some ad) ps.length c1] 44 (0, 0)) ∧ IsDev w4 gv b A0 n0 c0 (some ad) ps.length c1 ∧ LMap w4 b x.toNat (lastM (ps.take x.toNat)) ∧ Below w.heap.size w w4 ∧ w.heap.size ≤ gp ∧ gp ≠ gd ∧ gp ≠ gv ∧ gp ≠ b) := ⟨⟨blk_below BD.out hbel, blk_below BV.out hbel, LMap_step LM.out (hbel.block b (LMap_lt LM.out)), below_step HB.out hbel, by rw [hgr]; exact HB.out.size, by have := blk_lt BD.out; omega, by have := blk_lt BV.out; omega, by have := LMap_lt LM.out; omega⟩⟩; clear hbox hbel hgr) | ((with_reducible refine gate_ (.store 185 (.tmp 5) (.tmp 17)) rfl ?_); refine store_blk rfl rfl 185 (.tmp 5) (.tmp 17) rfl (off := 0) (u := .agg #[.int .i64 (rd_T185 ps x).f0, .slice A5 (rd_T185 ps x).f1.length c5]) #[.int .i64 (rd_T185 ps x).f0, .slice A5 (rd_T185 ps x).f1.length c5] rfl rfl BP0.out [.int .i64 (rd_T185 ps x).f0, .slice A5 (rd_T185 ps x).f1.length c5] rfl (by kernel_rfl) (Nat.le_of_ble_eq_true rfl) rfl rfl ?_; intro w5 hblk hgrw; have BP := Aside0.mk hblk; have S5 : Aside0 (w5.heap[gd]? = some (.cells #[.slice A0 n0 c0, .slice (some ad) ps.length c1] 44 (0, 0)) ∧ IsDev w5 gv b A0 n0 c0 (some ad) ps.length c1 ∧ LMap w5 b x.toNat (lastM (ps.take x.toNat)) ∧ Below w.heap.size w w5) := ⟨⟨blk_grown S4.out.1 hgrw (fun e => S4.out.2.2.2.2.2.1 (Option.some.inj e).symm), blk_grown S4.out.2.1 hgrw (fun e => S4.out.2.2.2.2.2.2.1 (Option.some.inj e).symm), LMap_step S4.out.2.2.1 (hgrw.block b (LMap_lt S4.out.2.2.1) (fun e => S4.out.2.2.2.2.2.2.2 (Option.some.inj e).symm)), S4.out.2.2.2.1.grown hgrw S4.out.2.2.2.1.size (by intro q hq; cases hq; exact S4.out.2.2.2.2.1)⟩⟩; clear hblk hgrw))
      refine start_ (n := 8) (S := fun w' => w'.heap[gp]? = some (.cells #[.int .i64 (rd_T185 ps x).f0, .slice A5 (rd_T185 ps x).f1.length c5] 185 (0, 0)) ∧ w'.heap[gd]? = some (.cells #[.slice A0 n0 c0, .slice (some ad) ps.length c1] 44 (0, 0)) ∧ IsDev w' gv b A0 n0 c0 (some ad) ps.length c1 ∧ LMap w' b x.toNat (lastM (ps.take x.toNat)) ∧ Below w.heap.size w w') (ds := [7]) #[false, false, false, false, false, false, false, false] (by kernel_rfl) rfl rfl (⟨blk_drew BP.out, blk_drew S5.out.1, blk_drew S5.out.2.1, LMap_step S5.out.2.2.1 rfl, below_drew1 S5.out.2.2.2⟩) (fun hHeld => ?_); refine with_tabW impl_deviceOf.tab5 impl_deviceOf.bits5 (fun HT_ HW_ => ?_)
      clear BP S5
      refine pure_ (i := 0) (N := some 18) (v := ?_) (a' := ?_) #[true, false, false, false, false, false, false, false] rfl rfl (any_of HT_.out (by kernel_rfl)) (fun _ _ _ h => h) (Or.inl ⟨by rfl, ?_⟩) ?_ ?_
      rotate_left
      · intro w'
        go_simp
        with_reducible rfl
      rotate_left
      · simp only [Act.put, List.setIfInBounds_toArray, List.set_cons_zero, List.set_cons_succ, i64_w, i32_w]
        rfl
      refine pure_ (i := 1) (N := some 19) (v := ?_) (a' := ?_) #[true, true, false, false, false, false, false, false] rfl rfl (any_of HT_.out (by kernel_rfl)) (fun _ _ _ h => h) (Or.inl ⟨by rfl, ?_⟩) ?_ ?_
      rotate_left
      · intro w'
        go_simp
        with_reducible rfl
      rotate_left
      · simp only [Act.put, List.setIfInBounds_toArray, List.set_cons_zero, List.set_cons_succ, i64_w, i32_w]
        rfl
      refine pure_ (i := 2) (N := some 20) (v := ?_) (a' := ?_) #[true, true, true, false, false, false, false, false] rfl rfl (any_of HT_.out (by kernel_rfl)) (fun _ _ _ h => h) (Or.inl ⟨by rfl, ?_⟩) ?_ ?_
      rotate_left
      · intro w'
        go_simp
        with_reducible rfl
      rotate_left
      · simp only [Act.put, List.setIfInBounds_toArray, List.set_cons_zero, List.set_cons_succ, i64_w, i32_w]
        rfl
      refine take_ (i := 3) (N := some 21) (v := ?_) (a' := ?_) #[true, true, true, true, false, false, false, false] rfl rfl (take_ofW HT_.out HW_.out (by kernel_rfl)) (fun _ _ _ h => h) (Or.inl ⟨by rfl, ?_⟩) hHeld ?_ ?_
      rotate_left
      · intro w' s0
        have hv4 : w'.cell? ⟨gv, 4, none⟩ = some (.map (some b)) := (blk_cell s0.2.2.1 4).trans rfl
        clear s0
        go_simp
        with_reducible rfl
      rotate_left
      · simp only [Act.put, List.setIfInBounds_toArray, List.set_cons_zero, List.set_cons_succ, i64_w, i32_w]
        rfl
      refine pure_ (i := 4) (N := some 22) (v := ?_) (a' := ?_) #[true, true, true, true, true, false, false, false] rfl rfl (any_of HT_.out (by kernel_rfl)) (fun _ _ _ h => h) (Or.inl ⟨by rfl, ?_⟩) ?_ ?_
      rotate_left
      · intro w'
        go_simp
        with_reducible rfl
      rotate_left
      · simp only [Act.put, List.setIfInBounds_toArray, List.set_cons_zero, List.set_cons_succ, i64_w, i32_w]
        rfl
      refine take_ (i := 5) (N := some 23) (v := ?_) (a' := ?_) #[true, true, true, true, true, true, false, false] rfl rfl (take_ofW HT_.out HW_.out (by kernel_rfl)) (fun _ _ _ h => h) (Or.inl ⟨by rfl, ?_⟩) hHeld ?_ ?_
      rotate_left
      · intro w' s0
        have hp0 : w'.cell? ⟨gp, 0, none⟩ = some (.int .i64 (rd_T185 ps x).f0) := (blk_cell s0.1 0).trans rfl
        clear s0
        go_simp
        with_reducible rfl
      rotate_left
      · simp only [Act.put, List.setIfInBounds_toArray, List.set_cons_zero, List.set_cons_succ, i64_w, i32_w]
        rfl
      refine pure_ (i := 6) (N := some 24) (v := ?_) (a' := ?_) #[true, true, true, true, true, true, true, false] rfl rfl (any_of HT_.out (by kernel_rfl)) (fun _ _ _ h => h) (Or.inl ⟨by rfl, ?_⟩) ?_ ?_
      rotate_left
      · intro w'
        go_simp
        with_reducible rfl
      rotate_left
      · simp only [Act.put, List.setIfInBounds_toArray, List.set_cons_zero, List.set_cons_succ, i64_w, i32_w]
        rfl
      refine last_ (i := 7) (N := none) #[true, true, true, true, true, true, true, true] rfl rfl (one_of HT_.out (by kernel_rfl)) (by decide) (fun K hK => ?_)
      refine map_put_step (by rfl) rfl (.tmp 21) (.tmp 23) (.tmp 24) rfl (b := b) (n := x.toNat) (y := (rd_T185 ps x).f0) (c := x) rfl rfl rfl hHeld.2.2.2.1 (by have := HP0.out; have := HQ0.out; have := HX.out; unfold maxLen; omega) hwx.out (WalkArith.wf_i64 (by have := HP0.out; have := HQ0.out; have := HX.out; omega)) ?_
      intro w6 hmap hgrw
      have LM5 := Aside0.mk hmap
      have BD5 := Aside0.mk (blk_grown hHeld.2.1 hgrw (fun e => by have h1 := hHeld.2.1; have h2 := hHeld.2.2.2.1; obtain ⟨_, ⟨_, _, h3, _⟩, _⟩ := h2; rw [← Option.some.inj e] at h3; rw [h1] at h3; cases h3))
      have BV5 : Aside0 (IsDev w6 gv b A0 n0 c0 (some ad) ps.length c1) := ⟨blk_grown hHeld.2.2.1 hgrw (fun e => NVM.out (Option.some.inj e))⟩
      have HB5 := Aside0.mk (hHeld.2.2.2.2.grown hgrw hHeld.2.2.2.2.size (by intro q hq; cases hq; exact GM.out))
      have BP5 := Aside0.mk (blk_grown hHeld.1 hgrw (fun e => by have h1 := hHeld.1; have h2 := hHeld.2.2.2.1; obtain ⟨_, ⟨_, _, h3, _⟩, _⟩ := h2; rw [← Option.some.inj e] at h3; rw [h1] at h3; cases h3))
      clear hmap hgrw hHeld
      refine hK.out _ _ ?_
      clear hK K
      refine done_ (done_of HT_.out (by kernel_rfl)) ?_
      try clear hHeld
      go_wp2_with fail
      go_roundg gk
      case measure => omega
      case rel =>
        have hw1 : wrap64 (x + 1) = x + 1 := by have := HP0.out; have := HQ0.out; have := HX.out; unfold wrap64; omega
        have ht1 : (x + 1).toNat = x.toNat + 1 := by have := HP0.out; omega
        exact ⟨x + 1, by first | rfl | (rw [hw1]), ⟨by have := HXK.out; omega⟩, BD5, BV5, ⟨by
          rw [ht1, hel.out, lastM_snoc]
          have hlt : (ps.take x.toNat).length = x.toNat := by rw [List.length_take]; have := HP0.out; have := HQ0.out; omega
          rw [hlt, Int.toNat_of_nonneg HP0.out]
          exact LM5.out⟩, HB5⟩
end Go.Proofs.Ytlopmffdebhpfaa.G

/-! ## Sec -/
namespace Go.Proofs.Ytlopmffdebhpfaa.G
open Go.RowKit Go.Proofs.YtlopmffdebhpfaaW.PrintWords Go.Proofs.YtlopmffdebhpfaaW.PrintLast Go.Proofs.YtlopmffdebhpfaaW.PrintMore
set_option linter.unusedVariables false
set_option linter.unusedSimpArgs false
def impl_sector.f (safe : List (List Int)) (ps : List S185) (at_ : Int) : Option (List Int × Bool) :=
  if 0 ≤ at_ ∧ at_ < (safe.length : Int) then
    match lastM ps at_ with
    | some i => if 0 ≤ i ∧ i < (ps.length : Int) then some ((rd_T185 ps i).f1, true) else none
    | none => some (rd_L2 safe at_, true)
  else some ([], false)
theorem unlocked {w w1 w2 : World} {g : Nat} {cs : Array Value} (hd : w.heap[g]? = some (.cells cs 159 (0, 0))) (h0 : cs[0]? = some (.int .i32 0)) (h1 : w1 = w.setCell ⟨g, 0, none⟩ (.int .i32 1)) (w1' : World) (hb : Below w1.heap.size w1 w1') (h2 : w2 = w1'.setCell ⟨g, 0, none⟩ (.int .i32 0)) : Below w.heap.size w w2 := by
  have hg : g < w.heap.size := blk_lt hd
  have hs1 : w1.heap.size = w.heap.size := by rw [h1]; simp [World.setCell]
  have hb1 : w1.heap[g]? = some (.cells (cs.setIfInBounds 0 (.int .i32 1)) 159 (0, 0)) := by rw [h1]; exact blk_put hd 0 _ rfl
  have hb1' := blk_below hb1 hb
  have hsz := hb.size
  refine ⟨?_, ?_, ?_, ?_, fun k hk => ?_⟩
  · rw [h2]; show w1'.os = _; rw [hb.os, h1]; rfl
  · rw [h2]; show w1'.tape = _; rw [hb.tape, h1]; rfl
  · rw [h2]; show w1'.output = _; rw [hb.output, h1]; rfl
  · rw [h2]; simp [World.setCell]; omega
  · by_cases hkg : k = g
    · subst hkg
      rw [h2, hd]
      refine blk_put hb1' 0 _ ?_
      obtain ⟨l⟩ := cs
      cases l with
      | nil => simp at h0
      | cons x r =>
        simp at h0
        subst h0
        rfl
    · rw [h2, Below.heap_setCell _ _ _ _ hkg, hb.block k (by omega), h1, Below.heap_setCell _ _ _ _ hkg]

set_option maxHeartbeats 4000000 in
set_option maxRecDepth 100000 in
theorem impl_sector.calls (g b n : Nat) (A0 : Option Addr) (c0 : Nat) (safe : List (List Int)) (A1 : Option Addr) (c1 : Nat) (ps : List S185) (x : Int) (r1 : List Int) (r2 : Bool) (w0 w : World) (hd : IsDev w g b A0 safe.length c0 A1 ps.length c1) (hl : LMap w b n (lastM ps)) (hgb : g ≠ b) (hB : Below w0.heap.size w0 w) (hg : w0.heap.size ≤ g)
    (hr0 : Kd.C (Kd.slice 5 (Kd.int .u8)) w0 A0 safe.length safe) (hr1 : Kd.C k185 w0 A1 ps.length ps) (hx : (Lit.int .i64 x).wf = true) (h : impl_sector.f safe ps x = some (r1, r2)) :
    Calls Try.prog 89 #[.pointer (some ⟨g, 0, none⟩), .int .i64 x] w fun e w' => ∃ A c, e = .returned (.tuple #[.slice A r1.length c, .bool r2]) ∧ r1.length ≤ c ∧ Kd.C (Kd.int .u8) w0 A r1.length r1 ∧ Below w.heap.size w w' := by
  have hu44 := Try.underlying44
  have hu159 := Try.underlying159
  have hu185 := Try.underlying185
  have hc0 : w.cell? ⟨g, 0, none⟩ = some (.int .i32 0) := (blk_cell hd 0).trans rfl
  have hf0 := blk_frozen hd 0
  have HR0 := Aside0.mk hr0
  have HR1 := Aside0.mk hr1
  clear hr0 hr1
  go_enter_defers Try.func89, Try.ntmps89
  go_wp2_with fail
  refine (Go.MuLone.lock_free muLib ⟨g, 0, none⟩ _ hc0 hf0).mono ?_
  rintro e w1 ⟨rfl, hw1⟩
  clear hc0 hf0
  have B1 : w1.heap[g]? = some (.cells #[.int .i32 1, .int .u32 0, .slice A0 safe.length c0, .slice A1 ps.length c1, .map (some b)] 159 (0, 0)) := by rw [hw1]; exact blk_put hd 0 _ rfl
  have HB1 := Aside0.mk (show Below w0.heap.size w0 w1 by rw [hw1]; exact below_set hB hg)
  have HL1 := Aside0.mk (show LMap w1 b n (lastM ps) from LMap_step hl (by rw [hw1]; exact Below.heap_setCell _ _ _ _ (Ne.symm hgb)))
  have hc1 : w1.cell? ⟨g, 0, none⟩ = some (.int .i32 1) := (blk_cell B1 0).trans rfl
  have hf1 := blk_frozen B1 0
  have hc2 : w1.cell? ⟨g, 2, none⟩ = some (.slice A0 safe.length c0) := (blk_cell B1 2).trans rfl
  have hc3 : w1.cell? ⟨g, 3, none⟩ = some (.slice A1 ps.length c1) := (blk_cell B1 3).trans rfl
  have hc4 : w1.cell? ⟨g, 4, none⟩ = some (.map (some b)) := (blk_cell B1 4).trans rfl
  have HW1 := Aside0.mk hw1
  have HD := Aside0.mk hd
  clear hw1 hd hB hl B1
  unfold impl_sector.f at h
  by_cases hlo : x < 0
  · rw [if_neg (by omega)] at h
    simp only [Option.some.injEq, Prod.mk.injEq] at h
    obtain ⟨rfl, rfl⟩ := h
    have d1 : decide (x < 0) = true := decide_eq_true hlo
    go_wp2_with fail
    refine leaves_cons (f := 140) (args := #[.pointer (some ⟨g, 0, none⟩)]) (by simp) (by simp [go_sem]) ?_
    refine (Go.MuLone.unlock_deferred muLib ⟨g, 0, none⟩ .returning _ (by first | exact hc1 | simpa using hc1) (by first | exact hf1 | simpa using hf1)).mono ?_
    rintro e u' w'' ⟨rfl, rfl, hw2⟩
    exact ⟨_, results_tmp2 rfl _ _ _, none, 0, rfl, Nat.le_refl _, Kd.C_nil _ _, unlocked HD.out rfl HW1.out _ (by first | exact Below.refl _ _ | exact below_drew1 (Below.refl _ _)) hw2⟩
  have d1 : decide (x < 0) = false := decide_eq_false hlo
  by_cases hhi : x < (safe.length : Int)
  case neg =>
    rw [if_neg (by omega)] at h
    simp only [Option.some.injEq, Prod.mk.injEq] at h
    obtain ⟨rfl, rfl⟩ := h
    have d2 : decide ((safe.length : Int) ≤ x) = true := decide_eq_true (by omega)
    go_wp2_with fail
    refine leaves_cons (f := 140) (args := #[.pointer (some ⟨g, 0, none⟩)]) (by simp) (by simp [go_sem]) ?_
    refine (Go.MuLone.unlock_deferred muLib ⟨g, 0, none⟩ .returning _ (by first | exact hc1 | simpa using hc1) (by first | exact hf1 | simpa using hf1)).mono ?_
    rintro e u' w'' ⟨rfl, rfl, hw2⟩
    exact ⟨_, results_tmp2 rfl _ _ _, none, 0, rfl, Nat.le_refl _, Kd.C_nil _ _, unlocked HD.out rfl HW1.out _ (by first | exact Below.refl _ _ | exact below_drew1 (Below.refl _ _)) hw2⟩
  rw [if_pos (by omega)] at h
  have d2 : decide ((safe.length : Int) ≤ x) = false := decide_eq_false (by omega)
  obtain ⟨v, hlook, hv⟩ := LMap_look HL1.out hx
  cases hm : lastM ps x with
  | none =>
    rw [hm] at h hlook
    simp only [Option.some.injEq, Prod.mk.injEq] at h
    obtain ⟨rfl, rfl⟩ := h
    simp only [Option.isSome_none] at hlook
    have p0 : 0 ≤ x := by omega
    have q0 : x < (safe.length : Int) := hhi
    obtain ⟨ad, A5, c5, e5, hx0, hl5, hi5⟩ := at_L2 HR0.out x p0 q0
    cases e5
    replace hx0 := (HB1.out.cell (World.block_lt_of_cell? w0 _ hx0)).trans hx0
    have HL5 := Aside0.mk hl5
    have HI5 := Aside0.mk hi5
    clear hl5 hi5
    have c4b0 : decide (x < (safe.length : Int)) = true := decide_eq_true q0
    have c4b1 : decide (0 ≤ x) = true := decide_eq_true p0
    replace p0 := eq_true p0
    replace q0 := eq_true q0
    go_wp2_with fail
    refine leaves_cons (f := 140) (args := #[.pointer (some ⟨g, 0, none⟩)]) (by simp) (by simp [go_sem]) ?_
    refine (Go.MuLone.unlock_deferred muLib ⟨g, 0, none⟩ .returning _ (by first | exact hc1 | simpa using hc1) (by first | exact hf1 | simpa using hf1)).mono ?_
    rintro e u' w'' ⟨rfl, rfl, hw2⟩
    exact ⟨_, results_tmp2 rfl _ _ _, A5, c5, rfl, HL5.out, HI5.out, unlocked HD.out rfl HW1.out _ (by first | exact Below.refl _ _ | exact below_drew1 (Below.refl _ _)) hw2⟩
  | some i =>
    rw [hm] at h hlook
    obtain rfl := hv i hm
    simp only at h
    split at h
    case isFalse => cases h
    rename_i hi
    simp only [Option.some.injEq, Prod.mk.injEq] at h
    obtain ⟨rfl, rfl⟩ := h
    simp only [Option.isSome_some] at hlook
    obtain ⟨ad, A5, c5, e5, hx0, hx1, hl5, hi5⟩ := at_T185 HR1.out v hi.1 hi.2
    cases e5
    replace hx0 := (HB1.out.cell (World.block_lt_of_cell? w0 _ hx0)).trans hx0
    replace hx1 := (HB1.out.cell (World.block_lt_of_cell? w0 _ hx1)).trans hx1
    have HL5 := Aside0.mk hl5
    have HI5 := Aside0.mk hi5
    clear hl5 hi5
    have c4b0 : decide (v < (ps.length : Int)) = true := decide_eq_true hi.2
    have c4b1 : decide (0 ≤ v) = true := decide_eq_true hi.1
    have p0 := eq_true hi.1
    have q0 := eq_true hi.2
    clear hm hv hi
    go_wp2_with fail
    refine leaves_cons (f := 140) (args := #[.pointer (some ⟨g, 0, none⟩)]) (by simp) (by simp [go_sem]) ?_
    refine (Go.MuLone.unlock_deferred muLib ⟨g, 0, none⟩ .returning _ (by first | exact hc1 | simpa using hc1) (by first | exact hf1 | simpa using hf1)).mono ?_
    rintro e u' w'' ⟨rfl, rfl, hw2⟩
    exact ⟨_, results_tmp2 rfl _ _ _, A5, c5, rfl, HL5.out, HI5.out, unlocked HD.out rfl HW1.out _ (by first | exact Below.refl _ _ | exact below_drew1 (Below.refl _ _)) hw2⟩
end Go.Proofs.Ytlopmffdebhpfaa.G

/-! ## G154 -/
namespace Go.Proofs.Ytlopmffdebhpfaa.G
open Go.RowKit Go.Proofs.YtlopmffdebhpfaaW.PrintWords Go.Proofs.YtlopmffdebhpfaaW.PrintLast Go.Proofs.YtlopmffdebhpfaaW.PrintMore
attribute [local go_sem] max2_int min2_int max_two min_two max_three min_three max_four min_four
set_option linter.unusedVariables false
set_option linter.unusedSimpArgs false

/-! ### impl_Disk_pages: function 154 -/
def impl_Disk_pages.f (l0_0 : List (List Int)) (l0_1 : List (S185)) : Option (Int) := some (wrap64 ((l0_0.length : Int) / 4))
set_option maxHeartbeats 8000000 in
set_option maxRecDepth 100000 in
theorem impl_Disk_pages.calls (A0_0 : Option Addr) (c0_0 : Nat) (l0_0 : List (List Int)) (A0_1 : Option Addr) (c0_1 : Nat) (l0_1 : List (S185)) (r : Int) (w : World) (hr0_0 : Kd.C (Kd.slice 5 (Kd.int .u8)) w A0_0 l0_0.length l0_0) (hc0_0 : l0_0.length ≤ c0_0) (hr0_1 : Kd.C k185 w A0_1 l0_1.length l0_1) (hc0_1 : l0_1.length ≤ c0_1) (h : impl_Disk_pages.f l0_0 l0_1 = some r) :
    Calls Try.prog 154 #[.agg #[.slice A0_0 l0_0.length c0_0, .slice A0_1 l0_1.length c0_1]] w fun e w' => e = .returned (.int .i64 r) ∧ Below w.heap.size w w' := by
  have hu44 := Try.underlying44
  have HR0_0 := Aside0.mk hr0_0
  have HC0_0 := Aside0.mk hc0_0
  clear hr0_0 hc0_0
  have HR0_1 := Aside0.mk hr0_1
  have HC0_1 := Aside0.mk hc0_1
  clear hr0_1 hc0_1
  have HB := Aside0.mk (Below.refl w.heap.size w)
  have H : (some (wrap64 ((l0_0.length : Int) / 4))) = some r := h
  clear h
  obtain rfl := Option.some.inj H
  go_enter Try.func154, Try.ntmps154
  go_wp2_with (first | ((with_reducible refine gate_dst (N := 1) rfl ?_); refine box_event ?hg (N := 1) ?hd (cs := #[.slice A0_0 l0_0.length c0_0, .slice A0_1 l0_1.length c0_1]) (t := 44) ?hr ?_; (case hd => rfl); (case hg => rfl); (case hr => first | (go_simp; done) | (go_simp; rfl)); intro gb757 hg w2 hbox hb; have n0_ := Aside0.mk (below_step (by repeat (first | (with_reducible first | exact HB.out | apply below_alloc | apply pw_below_drewN | apply below_drew1) | exact HB.out)) hb); have n1_ := Aside0.mk (hbox); have n2_ := Aside0.mk ((by rw [hg]; exact (below_size (by repeat (first | (with_reducible first | exact HB.out | apply below_alloc | apply pw_below_drewN | apply below_drew1) | exact HB.out))) : w.heap.size ≤ gb757)); have n3_ := Aside0.mk ((by rw [hg]; exact (below_size (by repeat (first | (with_reducible first | exact HB.out | apply below_alloc | apply pw_below_drewN | apply below_drew1) | exact HB.out))) : w.heap.size ≤ gb757)); clear HB; have HB := n0_; have BK757 := n1_; have GW757 := n2_; have GE757 := n3_; clear n0_ n1_ n2_ n3_; clear hb hbox hg; have hcz3_0 : w2.cell? ⟨gb757, 0, none⟩ = some (.slice A0_0 l0_0.length c0_0) := (blk_cell BK757.out 0).trans rfl; have hcz3_1 : w2.cell? ⟨gb757, 1, none⟩ = some (.slice A0_1 l0_1.length c0_1) := (blk_cell BK757.out 1).trans rfl; have hfz3_0 := blk_frozen BK757.out 0; have hfz3_1 := blk_frozen BK757.out 1))
  go_ret
  exact ⟨by first | rfl | (simp [errW_none, errW_some] <;> rfl) | (simp [*, errW_none, errW_some] <;> rfl), by repeat (first | (with_reducible first | exact HB.out | apply below_alloc | apply pw_below_drewN | apply below_drew1 | refine below_set ?_ GE757.out) | exact HB.out)⟩

end Go.Proofs.Ytlopmffdebhpfaa.G

/-! ## G87 -/
namespace Go.Proofs.Ytlopmffdebhpfaa.G
open Go.RowKit Go.Proofs.YtlopmffdebhpfaaW.PrintWords Go.Proofs.YtlopmffdebhpfaaW.PrintLast Go.Proofs.YtlopmffdebhpfaaW.PrintMore
attribute [local go_sem] max2_int min2_int max_two min_two max_three min_three max_four min_four
set_option linter.unusedVariables false
set_option linter.unusedSimpArgs false

/-! ### impl_DiskOk: function 87 -/
mutual
def impl_DiskOk.j0 : Nat → Bool → List (List Int) → List (S185) → Option (Bool)
  | 0, _, _, _ => none
  | k + 1, x22, x402000, x402001 => if x22 = true then (some false) else (impl_DiskOk.l0 k x402000 (x402000.length : Int) 0 x402000 x402001)
def impl_DiskOk.l0 : Nat → List (List Int) → Int → Int → List (List Int) → List (S185) → Option (Bool)
  | 0, _, _, _, _, _ => none
  | k + 1, x24, x25, x26, x402000, x402001 => if x26 < x25 then (if 0 ≤ x26 then (if x26 < (x24.length : Int) then (if ((rd_L2 x24 x26).length : Int) = 64 then (impl_DiskOk.l0 k x24 x25 (wrap64 (x26 + 1)) x402000 x402001) else (some false)) else (none)) else (none)) else (impl_DiskOk.l1 k x402001 (x402001.length : Int) 0 x402000 x402001)
def impl_DiskOk.l1 : Nat → List (S185) → Int → Int → List (List Int) → List (S185) → Option (Bool)
  | 0, _, _, _, _, _ => none
  | k + 1, x35, x36, x37, x402000, x402001 => if x37 < x36 then (if 0 ≤ x37 then (if x37 < (x35.length : Int) then (if ((rd_T185 x35 x37).f0) < 0 then (some false) else (if ((rd_T185 x35 x37).f0) ≥ (x402000.length : Int) then (some false) else (if (((rd_T185 x35 x37).f1).length : Int) = 64 then (impl_DiskOk.l1 k x35 x36 (wrap64 (x37 + 1)) x402000 x402001) else (some false)))) else (none)) else (none)) else (some true)
end
def impl_DiskOk.f (k : Nat) (l0_0 : List (List Int)) (l0_1 : List (S185)) : Option (Bool) := if (l0_0.length : Int) < 1 then (impl_DiskOk.j0 k true l0_0 l0_1) else (if (l0_0.length : Int) > 4096 then (impl_DiskOk.j0 k true l0_0 l0_1) else (impl_DiskOk.j0 k (decide ((l0_1.length : Int) > 5000)) l0_0 l0_1))
set_option maxHeartbeats 8000000 in
set_option maxRecDepth 100000 in
theorem impl_DiskOk.calls (k : Nat) (A0_0 : Option Addr) (c0_0 : Nat) (l0_0 : List (List Int)) (A0_1 : Option Addr) (c0_1 : Nat) (l0_1 : List (S185)) (r : Bool) (w : World) (hr0_0 : Kd.C (Kd.slice 5 (Kd.int .u8)) w A0_0 l0_0.length l0_0) (hc0_0 : l0_0.length ≤ c0_0) (hr0_1 : Kd.C k185 w A0_1 l0_1.length l0_1) (hc0_1 : l0_1.length ≤ c0_1) (h : impl_DiskOk.f k l0_0 l0_1 = some r) :
    Calls Try.prog 87 #[.agg #[.slice A0_0 l0_0.length c0_0, .slice A0_1 l0_1.length c0_1]] w fun e w' => e = .returned (.bool r) ∧ Below w.heap.size w w' := by
  have hu44 := Try.underlying44
  have hu185 := Try.underlying185
  have HR0_0 := Aside0.mk hr0_0
  have HC0_0 := Aside0.mk hc0_0
  clear hr0_0 hc0_0
  have HR0_1 := Aside0.mk hr0_1
  have HC0_1 := Aside0.mk hc0_1
  clear hr0_1 hc0_1
  have HB := Aside0.mk (Below.refl w.heap.size w)
  have H : (if (l0_0.length : Int) < 1 then (impl_DiskOk.j0 k true l0_0 l0_1) else (if (l0_0.length : Int) > 4096 then (impl_DiskOk.j0 k true l0_0 l0_1) else (impl_DiskOk.j0 k (decide ((l0_1.length : Int) > 5000)) l0_0 l0_1))) = some r := h
  clear h
  have HC2 := Aside0.mk H
  clear H
  go_enter Try.func87, Try.ntmps87
  go_upto_region 1 with (first | ((with_reducible refine gate_dst (N := 1) rfl ?_); (try (refine gate_guard (by rfl) ?_; dsimp only)); refine box_event ?hg (N := 1) ?hd (cs := #[.slice A0_0 l0_0.length c0_0, .slice A0_1 l0_1.length c0_1]) (t := 44) ?hr ?_; (case hd => rfl); (case hg => rfl); (case hr => first | (go_simp; done) | (go_simp; rfl)); intro gb401 hg w3 hbox hb; have n0_ := Aside0.mk (below_step (by repeat (first | (with_reducible first | exact HB.out | apply below_alloc | apply pw_below_drewN | apply below_drew1) | exact HB.out)) hb); have n1_ := Aside0.mk (hbox); have n2_ := Aside0.mk ((by rw [hg]; exact (below_size (by repeat (first | (with_reducible first | exact HB.out | apply below_alloc | apply pw_below_drewN | apply below_drew1) | exact HB.out))) : w.heap.size ≤ gb401)); have n3_ := Aside0.mk ((by rw [hg]; exact (below_size (by repeat (first | (with_reducible first | exact HB.out | apply below_alloc | apply pw_below_drewN | apply below_drew1) | exact HB.out))) : w.heap.size ≤ gb401)); clear HB; have HB := n0_; have BK401 := n1_; have GW401 := n2_; have GE401 := n3_; clear n0_ n1_ n2_ n3_; clear hb hbox hg))
  (try simp only [Act.put, List.setIfInBounds_toArray, List.set_cons_zero, List.set_cons_succ])
  go_cut [22] (fun v22 wc => ∃ (kq : Nat) (x22_1 : Bool), v22 = .bool x22_1 ∧ Aside0 (impl_DiskOk.j0 kq x22_1 l0_0 l0_1 = some r) ∧ Aside0 (kq ≤ k) ∧ Aside0 (wc.heap[gb401]? = some (.cells #[(.slice A0_0 l0_0.length c0_0), (.slice A0_1 l0_1.length c0_1)] 44 (0, 0))) ∧ Aside0 (Below w.heap.size w wc))
  case first =>
    have H := HC2.out
    clear HC2
    by_cases c4 : (l0_0.length : Int) < 1
    · rw [if_pos c4] at H
      have c4b0 : decide ((l0_0.length : Int) < 1) = true := decide_eq_true c4
      have c4b1 : decide (l0_0.length < 1) = true := decide_eq_true (by omega)
      clear c4
      (first | rw [c4b0] | (simp only [i64_w, i32_w]; rw [c4b0]) | skip)
      have H' := Aside0.mk H
      clear H
      have hcz5_0 : w3.cell? ⟨gb401, 0, none⟩ = some (.slice A0_0 l0_0.length c0_0) := (blk_cell BK401.out 0).trans rfl
      have hcz5_1 : w3.cell? ⟨gb401, 1, none⟩ = some (.slice A0_1 l0_1.length c0_1) := (blk_cell BK401.out 1).trans rfl
      have hfz5_0 := blk_frozen BK401.out 0
      have hfz5_1 := blk_frozen BK401.out 1
      go_wp2
      go_meet
      case rel => exact ⟨_, (true), (by first | rfl | (simp; done) | (simp [*]; done)), H', ⟨by first | omega | exact Nat.le_refl _⟩, ⟨by (with_reducible repeat (first | refine blk_drewN ?_ _ | refine blk_drew ?_ | refine blk_alloc ?_ _)); exact BK401.out⟩, ⟨by repeat (first | (with_reducible first | exact HB.out | apply below_alloc | apply pw_below_drewN | apply below_drew1 | refine below_set ?_ GE401.out) | exact HB.out)⟩⟩
    · rw [if_neg c4] at H
      have c4b0 : decide ((l0_0.length : Int) < 1) = false := decide_eq_false c4
      have c4b1 : decide (l0_0.length < 1) = false := decide_eq_false (by omega)
      clear c4
      (first | rw [c4b0] | (simp only [i64_w, i32_w]; rw [c4b0]) | skip)
      by_cases c6 : (l0_0.length : Int) > 4096
      · rw [if_pos c6] at H
        have c6b0 : decide (4096 < (l0_0.length : Int)) = true := decide_eq_true c6
        have c6b1 : decide (4096 < l0_0.length) = true := decide_eq_true (by omega)
        clear c6
        have H' := Aside0.mk H
        clear H
        have hcz7_0 : w3.cell? ⟨gb401, 0, none⟩ = some (.slice A0_0 l0_0.length c0_0) := (blk_cell BK401.out 0).trans rfl
        have hcz7_1 : w3.cell? ⟨gb401, 1, none⟩ = some (.slice A0_1 l0_1.length c0_1) := (blk_cell BK401.out 1).trans rfl
        have hfz7_0 := blk_frozen BK401.out 0
        have hfz7_1 := blk_frozen BK401.out 1
        go_wp2
        go_meet
        case rel => exact ⟨_, (true), (by first | rfl | (simp; done) | (simp [*]; done)), H', ⟨by first | omega | exact Nat.le_refl _⟩, ⟨by (with_reducible repeat (first | refine blk_drewN ?_ _ | refine blk_drew ?_ | refine blk_alloc ?_ _)); exact BK401.out⟩, ⟨by repeat (first | (with_reducible first | exact HB.out | apply below_alloc | apply pw_below_drewN | apply below_drew1 | refine below_set ?_ GE401.out) | exact HB.out)⟩⟩
      · rw [if_neg c6] at H
        have c6b0 : decide (4096 < (l0_0.length : Int)) = false := decide_eq_false c6
        have c6b1 : decide (4096 < l0_0.length) = false := decide_eq_false (by omega)
        clear c6
        have H' := Aside0.mk H
        clear H
        have hcz8_0 : w3.cell? ⟨gb401, 0, none⟩ = some (.slice A0_0 l0_0.length c0_0) := (blk_cell BK401.out 0).trans rfl
        have hcz8_1 : w3.cell? ⟨gb401, 1, none⟩ = some (.slice A0_1 l0_1.length c0_1) := (blk_cell BK401.out 1).trans rfl
        have hfz8_0 := blk_frozen BK401.out 0
        have hfz8_1 := blk_frozen BK401.out 1
        go_wp2
        go_meet
        case rel => exact ⟨_, (decide ((l0_1.length : Int) > 5000)), (by first | rfl | (simp; done) | (simp [*]; done)), H', ⟨by first | omega | exact Nat.le_refl _⟩, ⟨by (with_reducible repeat (first | refine blk_drewN ?_ _ | refine blk_drew ?_ | refine blk_alloc ?_ _)); exact BK401.out⟩, ⟨by repeat (first | (with_reducible first | exact HB.out | apply below_alloc | apply pw_below_drewN | apply below_drew1 | refine below_set ?_ GE401.out) | exact HB.out)⟩⟩
  case rest =>
    clear HC2
    try clear p2
    try clear c4
    try clear c4b0
    try clear c4b1
    try clear c6
    try clear c6b0
    try clear c6b1
    try clear c8
    try clear hcz5_0
    try clear hcz5_1
    try clear hcz7_0
    try clear hcz7_1
    try clear hcz8_0
    try clear hcz8_1
    try clear hfz5_0
    try clear hfz5_1
    try clear hfz7_0
    try clear hfz7_1
    try clear hfz8_0
    try clear hfz8_1
    obtain ⟨kq, x22_1, rfl, HA, HJ1, BK401, HB⟩ := hcut
    cases kq with
    | zero => exact absurd HA.out (by simp [impl_DiskOk.j0])
    | succ kj1 =>
      have H := HA.out
      clear HA
      simp only [impl_DiskOk.j0] at H
      by_cases c9 : x22_1 = true
      · subst c9
        have H1 : (some false) = some r := by rw [if_pos rfl] at H; exact H
        clear H
        have H := H1
        clear H1
        obtain rfl := Option.some.inj H
        go_wp2
        go_ret
        exact ⟨by first | rfl | (simp [errW_none, errW_some] <;> rfl) | (simp [*, errW_none, errW_some] <;> rfl), by repeat (first | (with_reducible first | exact HB.out | apply below_alloc | apply pw_below_drewN | apply below_drew1 | refine below_set ?_ GE401.out) | exact HB.out)⟩
      · replace c9 := Bool.eq_false_iff.mpr c9
        subst c9
        have H1 : (impl_DiskOk.l0 kj1 l0_0 (l0_0.length : Int) 0 l0_0 l0_1) = some r := by rw [if_neg (show ¬ (false = true) by decide)] at H; exact H
        clear H
        have H := H1
        clear H1
        have H' := Aside0.mk H
        clear H
        have hcz10_0 : wc.cell? ⟨gb401, 0, none⟩ = some (.slice A0_0 l0_0.length c0_0) := (blk_cell BK401.out 0).trans rfl
        have hcz10_1 : wc.cell? ⟨gb401, 1, none⟩ = some (.slice A0_1 l0_1.length c0_1) := (blk_cell BK401.out 1).trans rfl
        have hfz10_0 := blk_frozen BK401.out 0
        have hfz10_1 := blk_frozen BK401.out 1
        go_wp2
        go_loopg [26] kj1 (fun kq v26 w' => ∃ (x26_2 : Int), v26 = .int .i64 x26_2 ∧ Aside0 (impl_DiskOk.l0 kq l0_0 (l0_0.length : Int) x26_2 l0_0 l0_1 = some r) ∧ Aside0 (kq ≤ kj1) ∧ Aside0 (w'.heap[gb401]? = some (.cells #[(.slice A0_0 l0_0.length c0_0), (.slice A0_1 l0_1.length c0_1)] 44 (0, 0))) ∧ Aside0 (Below w.heap.size w w'))
        case atStart => exact ⟨(0), (by first | rfl | (simp; done) | (simp [*]; done)), H', ⟨Nat.le_refl _⟩, ⟨by (with_reducible repeat (first | refine blk_drewN ?_ _ | refine blk_drew ?_ | refine blk_alloc ?_ _)); exact BK401.out⟩, ⟨by repeat (first | (with_reducible first | exact HB.out | apply below_alloc | apply pw_below_drewN | apply below_drew1 | refine below_set ?_ GE401.out) | exact HB.out)⟩⟩
        case round =>
          clear H'
          try clear p2
          try clear c4
          try clear c4b0
          try clear c4b1
          try clear c6
          try clear c6b0
          try clear c6b1
          try clear c8
          try clear c9
          try clear hcz10_0
          try clear hcz10_1
          try clear hcz5_0
          try clear hcz5_1
          try clear hcz7_0
          try clear hcz7_1
          try clear hcz8_0
          try clear hcz8_1
          try clear hfz10_0
          try clear hfz10_1
          try clear hfz5_0
          try clear hfz5_1
          try clear hfz7_0
          try clear hfz7_1
          try clear hfz8_0
          try clear hfz8_1
          try clear p2
          obtain ⟨x26_2, rfl, HA, HK2, BK401, HB⟩ := hrel
          cases gk with
          | zero => exact absurd HA.out (by simp [impl_DiskOk.l0])
          | succ k2 =>
            have H := HA.out
            clear HA
            simp only [impl_DiskOk.l0] at H
            by_cases c11 : x26_2 < (l0_0.length : Int)
            · rw [if_pos c11] at H
              have c11b0 : decide (x26_2 < (l0_0.length : Int)) = true := decide_eq_true c11
              clear c11
              by_cases c12 : 0 ≤ x26_2
              · rw [if_pos c12] at H
                have c12b0 : decide (0 ≤ x26_2) = true := decide_eq_true c12
                clear c12
                by_cases c13 : x26_2 < (l0_0.length : Int)
                · rw [if_pos c13] at H
                  have c13b0 : decide (x26_2 < (l0_0.length : Int)) = true := decide_eq_true c13
                  clear c13
                  by_cases c14 : ((rd_L2 l0_0 x26_2).length : Int) = 64
                  · rw [if_pos c14] at H
                    have c14b0 : (((rd_L2 l0_0 x26_2).length : Int) == 64) = true := beq_iff_eq.mpr c14
                    have c14b1 : (((rd_L2 l0_0 x26_2).length : Int) != 64) = false := bne_eq_false_iff_eq.mpr c14
                    clear c14
                    have H' := Aside0.mk H
                    clear H
                    have p402 : 0 ≤ (x26_2 : Int) := of_decide_eq_true (by first | (with_reducible assumption) | assumption)
                    have q402 : x26_2 < (l0_0.length : Int) := of_decide_eq_true (by first | (with_reducible assumption) | assumption)
                    obtain ⟨ad402, A402_0, c402_0, e402, hx402_0, hl402_0, hi402_0⟩ := at_L2 HR0_0.out x26_2 p402 q402
                    cases e402
                    replace hx402_0 := (HB.out.cell (World.block_lt_of_cell? w _ hx402_0)).trans hx402_0
                    have HR402_0 := Aside0.mk hi402_0
                    have HC402_0 := Aside0.mk hl402_0
                    clear hi402_0 hl402_0
                    replace p402 := eq_true p402
                    replace q402 := eq_true q402
                    go_wp2
                    go_roundg k2
                    case measure => have := HJ1.out; have := HK2.out; omega
                    case rel => exact ⟨(wrap64 (x26_2 + 1)), (by first | rfl | (simp; done) | (simp [*]; done)), H', ⟨by have := HJ1.out; have := HK2.out; omega⟩, ⟨by (with_reducible repeat (first | refine blk_drewN ?_ _ | refine blk_drew ?_ | refine blk_alloc ?_ _)); exact BK401.out⟩, ⟨by repeat (first | (with_reducible first | exact HB.out | apply below_alloc | apply pw_below_drewN | apply below_drew1 | refine below_set ?_ GE401.out) | exact HB.out)⟩⟩
                  · rw [if_neg c14] at H
                    have c14b0 : (((rd_L2 l0_0 x26_2).length : Int) == 64) = false := beq_eq_false_iff_ne.mpr c14
                    have c14b1 : (((rd_L2 l0_0 x26_2).length : Int) != 64) = true := bne_iff_ne.mpr c14
                    obtain rfl := Option.some.inj H
                    have p402 : 0 ≤ (x26_2 : Int) := of_decide_eq_true (by first | (with_reducible assumption) | assumption)
                    have q402 : x26_2 < (l0_0.length : Int) := of_decide_eq_true (by first | (with_reducible assumption) | assumption)
                    obtain ⟨ad402, A402_0, c402_0, e402, hx402_0, hl402_0, hi402_0⟩ := at_L2 HR0_0.out x26_2 p402 q402
                    cases e402
                    replace hx402_0 := (HB.out.cell (World.block_lt_of_cell? w _ hx402_0)).trans hx402_0
                    have HR402_0 := Aside0.mk hi402_0
                    have HC402_0 := Aside0.mk hl402_0
                    clear hi402_0 hl402_0
                    replace p402 := eq_true p402
                    replace q402 := eq_true q402
                    go_wp2
                    go_ret
                    exact ⟨by first | rfl | (simp [errW_none, errW_some] <;> rfl) | (simp [*, errW_none, errW_some] <;> rfl), by repeat (first | (with_reducible first | exact HB.out | apply below_alloc | apply pw_below_drewN | apply below_drew1 | refine below_set ?_ GE401.out) | exact HB.out)⟩
                · rw [if_neg c13] at H
                  exact absurd H (by simp)
              · rw [if_neg c12] at H
                exact absurd H (by simp)
            · rw [if_neg c11] at H
              have c11b0 : decide (x26_2 < (l0_0.length : Int)) = false := decide_eq_false c11
              clear c11
              have H' := Aside0.mk H
              clear H
              have hcz15_0 : wr.cell? ⟨gb401, 0, none⟩ = some (.slice A0_0 l0_0.length c0_0) := (blk_cell BK401.out 0).trans rfl
              have hcz15_1 : wr.cell? ⟨gb401, 1, none⟩ = some (.slice A0_1 l0_1.length c0_1) := (blk_cell BK401.out 1).trans rfl
              have hfz15_0 := blk_frozen BK401.out 0
              have hfz15_1 := blk_frozen BK401.out 1
              go_wp2
              go_loopg [37] k2 (fun kq v37 w' => ∃ (x37_3 : Int), v37 = .int .i64 x37_3 ∧ Aside0 (impl_DiskOk.l1 kq l0_1 (l0_1.length : Int) x37_3 l0_0 l0_1 = some r) ∧ Aside0 (kq ≤ k2) ∧ Aside0 (w'.heap[gb401]? = some (.cells #[(.slice A0_0 l0_0.length c0_0), (.slice A0_1 l0_1.length c0_1)] 44 (0, 0))) ∧ Aside0 (Below w.heap.size w w'))
              case atStart => exact ⟨(0), (by first | rfl | (simp; done) | (simp [*]; done)), H', ⟨Nat.le_refl _⟩, ⟨by (with_reducible repeat (first | refine blk_drewN ?_ _ | refine blk_drew ?_ | refine blk_alloc ?_ _)); exact BK401.out⟩, ⟨by repeat (first | (with_reducible first | exact HB.out | apply below_alloc | apply pw_below_drewN | apply below_drew1 | refine below_set ?_ GE401.out) | exact HB.out)⟩⟩
              case round =>
                clear H'
                try clear c1
                try clear p2
                try clear c4
                try clear c4b0
                try clear c4b1
                try clear p4
                try clear q4
                try clear hx4
                try clear c6
                try clear c6b0
                try clear c6b1
                try clear p6
                try clear c8
                try clear c9
                try clear c11
                try clear c11b0
                try clear c12
                try clear c12b0
                try clear c13
                try clear c13b0
                try clear c14
                try clear c14b0
                try clear c14b1
                try clear hcz10_0
                try clear hcz10_1
                try clear hcz15_0
                try clear hcz15_1
                try clear hcz5_0
                try clear hcz5_1
                try clear hcz7_0
                try clear hcz7_1
                try clear hcz8_0
                try clear hcz8_1
                try clear hfz10_0
                try clear hfz10_1
                try clear hfz15_0
                try clear hfz15_1
                try clear hfz5_0
                try clear hfz5_1
                try clear hfz7_0
                try clear hfz7_1
                try clear hfz8_0
                try clear hfz8_1
                try clear hx402_0
                try clear p2
                try clear p402
                try clear q402
                obtain ⟨x37_3, rfl, HA, HK3, BK401, HB⟩ := hrel
                cases gk with
                | zero => exact absurd HA.out (by simp [impl_DiskOk.l1])
                | succ k3 =>
                  have H := HA.out
                  clear HA
                  simp only [impl_DiskOk.l1] at H
                  by_cases c16 : x37_3 < (l0_1.length : Int)
                  · rw [if_pos c16] at H
                    have c16b0 : decide (x37_3 < (l0_1.length : Int)) = true := decide_eq_true c16
                    clear c16
                    by_cases c17 : 0 ≤ x37_3
                    · rw [if_pos c17] at H
                      have c17b0 : decide (0 ≤ x37_3) = true := decide_eq_true c17
                      clear c17
                      by_cases c18 : x37_3 < (l0_1.length : Int)
                      · rw [if_pos c18] at H
                        have c18b0 : decide (x37_3 < (l0_1.length : Int)) = true := decide_eq_true c18
                        clear c18
                        by_cases c19 : ((rd_T185 l0_1 x37_3).f0) < 0
                        · rw [if_pos c19] at H
                          have c19b0 : decide (((rd_T185 l0_1 x37_3).f0) < 0) = true := decide_eq_true c19
                          clear c19
                          obtain rfl := Option.some.inj H
                          have p403 : 0 ≤ (x37_3 : Int) := of_decide_eq_true (by first | (with_reducible assumption) | assumption)
                          have q403 : x37_3 < (l0_1.length : Int) := of_decide_eq_true (by first | (with_reducible assumption) | assumption)
                          obtain ⟨ad403, A403_1, c403_1, e403, hx403_0, hx403_1, hl403_1, hi403_1⟩ := at_T185 HR0_1.out x37_3 p403 q403
                          cases e403
                          replace hx403_0 := (HB.out.cell (World.block_lt_of_cell? w _ hx403_0)).trans hx403_0
                          replace hx403_1 := (HB.out.cell (World.block_lt_of_cell? w _ hx403_1)).trans hx403_1
                          have HR403_1 := Aside0.mk hi403_1
                          have HC403_1 := Aside0.mk hl403_1
                          clear hi403_1 hl403_1
                          replace p403 := eq_true p403
                          replace q403 := eq_true q403
                          go_wp2_with (first | ((with_reducible refine gate_dst (N := 6) rfl ?_); (try (refine gate_guard (by rfl) ?_; dsimp only)); refine box_event ?hg (N := 6) ?hd (cs := #[.int .i64 0, .slice none 0 0]) (t := 185) ?hr ?_; (case hd => rfl); (case hg => rfl); (case hr => first | (go_simp; done) | (go_simp; rfl)); intro gb404 hg w20 hbox hb; have n0_ := Aside0.mk (blk_below (g := gb401) (o := .cells #[.slice A0_0 l0_0.length c0_0, .slice (some ad403) l0_1.length c0_1] 44 (0, 0)) (by (with_reducible repeat (first | refine blk_drewN ?_ _ | refine blk_drew ?_ | refine blk_alloc ?_ _)); exact BK401.out) hb); have n1_ := Aside0.mk (below_step (by repeat (first | (with_reducible first | exact HB.out | apply below_alloc | apply pw_below_drewN | apply below_drew1 | refine below_set ?_ GE401.out) | exact HB.out)) hb); have n2_ := Aside0.mk (hbox); have n3_ := Aside0.mk ((by rw [hg]; exact (below_size (by repeat (first | (with_reducible first | exact HB.out | apply below_alloc | apply pw_below_drewN | apply below_drew1 | refine below_set ?_ GE401.out) | exact HB.out))) : w.heap.size ≤ gb404)); have n4_ := Aside0.mk ((by rw [hg]; exact (below_size (by repeat (first | (with_reducible first | exact HB.out | apply below_alloc | apply pw_below_drewN | apply below_drew1 | refine below_set ?_ GE401.out) | exact HB.out))) : w.heap.size ≤ gb404)); have n5_ := Aside0.mk ((by rw [hg]; exact Nat.ne_of_lt (blk_lt (g := gb401) (o := .cells #[.slice A0_0 l0_0.length c0_0, .slice (some ad403) l0_1.length c0_1] 44 (0, 0)) (by (with_reducible repeat (first | refine blk_drewN ?_ _ | refine blk_drew ?_ | refine blk_alloc ?_ _)); exact BK401.out)) : gb401 ≠ gb404)); have n6_ := Aside0.mk ((by rw [hg]; exact Nat.ne_of_gt (blk_lt (g := gb401) (o := .cells #[.slice A0_0 l0_0.length c0_0, .slice (some ad403) l0_1.length c0_1] 44 (0, 0)) (by (with_reducible repeat (first | refine blk_drewN ?_ _ | refine blk_drew ?_ | refine blk_alloc ?_ _)); exact BK401.out)) : gb404 ≠ gb401)); clear BK401; clear HB; have BK401 := n0_; have HB := n1_; have BK404 := n2_; have GW404 := n3_; have GE404 := n4_; have NB401_404 := n5_; have NB404_401 := n6_; clear n0_ n1_ n2_ n3_ n4_ n5_ n6_; clear hb hbox hg; have hnb21 := NB404_401.out; have hnc21 := NB401_404.out; have hcz22_0 : w20.cell? ⟨gb404, 0, none⟩ = some (.int .i64 0) := (blk_cell BK404.out 0).trans rfl; have hcz22_1 : w20.cell? ⟨gb404, 1, none⟩ = some (.slice none 0 0) := (blk_cell BK404.out 1).trans rfl; have hfz22_0 := blk_frozen BK404.out 0; have hfz22_1 := blk_frozen BK404.out 1))
                          go_ret
                          exact ⟨by first | rfl | (simp [errW_none, errW_some] <;> rfl) | (simp [*, errW_none, errW_some] <;> rfl), by repeat (first | (with_reducible first | exact HB.out | apply below_alloc | apply pw_below_drewN | apply below_drew1 | refine below_set ?_ GE401.out | refine below_set ?_ GE404.out) | exact HB.out)⟩
                        · rw [if_neg c19] at H
                          have c19b0 : decide (((rd_T185 l0_1 x37_3).f0) < 0) = false := decide_eq_false c19
                          clear c19
                          by_cases c23 : ((rd_T185 l0_1 x37_3).f0) ≥ (l0_0.length : Int)
                          · rw [if_pos c23] at H
                            have c23b0 : decide ((l0_0.length : Int) ≤ ((rd_T185 l0_1 x37_3).f0)) = true := decide_eq_true c23
                            clear c23
                            obtain rfl := Option.some.inj H
                            have p403 : 0 ≤ (x37_3 : Int) := of_decide_eq_true (by first | (with_reducible assumption) | assumption)
                            have q403 : x37_3 < (l0_1.length : Int) := of_decide_eq_true (by first | (with_reducible assumption) | assumption)
                            obtain ⟨ad403, A403_1, c403_1, e403, hx403_0, hx403_1, hl403_1, hi403_1⟩ := at_T185 HR0_1.out x37_3 p403 q403
                            cases e403
                            replace hx403_0 := (HB.out.cell (World.block_lt_of_cell? w _ hx403_0)).trans hx403_0
                            replace hx403_1 := (HB.out.cell (World.block_lt_of_cell? w _ hx403_1)).trans hx403_1
                            have HR403_1 := Aside0.mk hi403_1
                            have HC403_1 := Aside0.mk hl403_1
                            clear hi403_1 hl403_1
                            replace p403 := eq_true p403
                            replace q403 := eq_true q403
                            go_wp2_with (first | ((with_reducible refine gate_dst (N := 6) rfl ?_); (try (refine gate_guard (by rfl) ?_; dsimp only)); refine box_event ?hg (N := 6) ?hd (cs := #[.int .i64 0, .slice none 0 0]) (t := 185) ?hr ?_; (case hd => rfl); (case hg => rfl); (case hr => first | (go_simp; done) | (go_simp; rfl)); intro gb404 hg w24 hbox hb; have n0_ := Aside0.mk (blk_below (g := gb401) (o := .cells #[.slice A0_0 l0_0.length c0_0, .slice (some ad403) l0_1.length c0_1] 44 (0, 0)) (by (with_reducible repeat (first | refine blk_drewN ?_ _ | refine blk_drew ?_ | refine blk_alloc ?_ _)); exact BK401.out) hb); have n1_ := Aside0.mk (below_step (by repeat (first | (with_reducible first | exact HB.out | apply below_alloc | apply pw_below_drewN | apply below_drew1 | refine below_set ?_ GE401.out) | exact HB.out)) hb); have n2_ := Aside0.mk (hbox); have n3_ := Aside0.mk ((by rw [hg]; exact (below_size (by repeat (first | (with_reducible first | exact HB.out | apply below_alloc | apply pw_below_drewN | apply below_drew1 | refine below_set ?_ GE401.out) | exact HB.out))) : w.heap.size ≤ gb404)); have n4_ := Aside0.mk ((by rw [hg]; exact (below_size (by repeat (first | (with_reducible first | exact HB.out | apply below_alloc | apply pw_below_drewN | apply below_drew1 | refine below_set ?_ GE401.out) | exact HB.out))) : w.heap.size ≤ gb404)); have n5_ := Aside0.mk ((by rw [hg]; exact Nat.ne_of_lt (blk_lt (g := gb401) (o := .cells #[.slice A0_0 l0_0.length c0_0, .slice (some ad403) l0_1.length c0_1] 44 (0, 0)) (by (with_reducible repeat (first | refine blk_drewN ?_ _ | refine blk_drew ?_ | refine blk_alloc ?_ _)); exact BK401.out)) : gb401 ≠ gb404)); have n6_ := Aside0.mk ((by rw [hg]; exact Nat.ne_of_gt (blk_lt (g := gb401) (o := .cells #[.slice A0_0 l0_0.length c0_0, .slice (some ad403) l0_1.length c0_1] 44 (0, 0)) (by (with_reducible repeat (first | refine blk_drewN ?_ _ | refine blk_drew ?_ | refine blk_alloc ?_ _)); exact BK401.out)) : gb404 ≠ gb401)); clear BK401; clear HB; have BK401 := n0_; have HB := n1_; have BK404 := n2_; have GW404 := n3_; have GE404 := n4_; have NB401_404 := n5_; have NB404_401 := n6_; clear n0_ n1_ n2_ n3_ n4_ n5_ n6_; clear hb hbox hg; have hnb25 := NB404_401.out; have hnc25 := NB401_404.out; have hcz26_0 : w24.cell? ⟨gb404, 0, none⟩ = some (.int .i64 0) := (blk_cell BK404.out 0).trans rfl; have hcz26_1 : w24.cell? ⟨gb404, 1, none⟩ = some (.slice none 0 0) := (blk_cell BK404.out 1).trans rfl; have hfz26_0 := blk_frozen BK404.out 0; have hfz26_1 := blk_frozen BK404.out 1; have hcz27_0 : w24.cell? ⟨gb401, 0, none⟩ = some (.slice A0_0 l0_0.length c0_0) := (blk_cell BK401.out 0).trans rfl; have hcz27_1 : w24.cell? ⟨gb401, 1, none⟩ = some (.slice (some ad403) l0_1.length c0_1) := (blk_cell BK401.out 1).trans rfl; have hfz27_0 := blk_frozen BK401.out 0; have hfz27_1 := blk_frozen BK401.out 1))
                            go_ret
                            exact ⟨by first | rfl | (simp [errW_none, errW_some] <;> rfl) | (simp [*, errW_none, errW_some] <;> rfl), by repeat (first | (with_reducible first | exact HB.out | apply below_alloc | apply pw_below_drewN | apply below_drew1 | refine below_set ?_ GE401.out | refine below_set ?_ GE404.out) | exact HB.out)⟩
                          · rw [if_neg c23] at H
                            have c23b0 : decide ((l0_0.length : Int) ≤ ((rd_T185 l0_1 x37_3).f0)) = false := decide_eq_false c23
                            clear c23
                            by_cases c28 : (((rd_T185 l0_1 x37_3).f1).length : Int) = 64
                            · rw [if_pos c28] at H
                              have c28b0 : ((((rd_T185 l0_1 x37_3).f1).length : Int) == 64) = true := beq_iff_eq.mpr c28
                              have c28b1 : ((((rd_T185 l0_1 x37_3).f1).length : Int) != 64) = false := bne_eq_false_iff_eq.mpr c28
                              clear c28
                              have H' := Aside0.mk H
                              clear H
                              have p403 : 0 ≤ (x37_3 : Int) := of_decide_eq_true (by first | (with_reducible assumption) | assumption)
                              have q403 : x37_3 < (l0_1.length : Int) := of_decide_eq_true (by first | (with_reducible assumption) | assumption)
                              obtain ⟨ad403, A403_1, c403_1, e403, hx403_0, hx403_1, hl403_1, hi403_1⟩ := at_T185 HR0_1.out x37_3 p403 q403
                              cases e403
                              replace hx403_0 := (HB.out.cell (World.block_lt_of_cell? w _ hx403_0)).trans hx403_0
                              replace hx403_1 := (HB.out.cell (World.block_lt_of_cell? w _ hx403_1)).trans hx403_1
                              have HR403_1 := Aside0.mk hi403_1
                              have HC403_1 := Aside0.mk hl403_1
                              clear hi403_1 hl403_1
                              replace p403 := eq_true p403
                              replace q403 := eq_true q403
                              go_wp2_with (first | ((with_reducible refine gate_dst (N := 6) rfl ?_); (try (refine gate_guard (by rfl) ?_; dsimp only)); refine box_event ?hg (N := 6) ?hd (cs := #[.int .i64 0, .slice none 0 0]) (t := 185) ?hr ?_; (case hd => rfl); (case hg => rfl); (case hr => first | (go_simp; done) | (go_simp; rfl)); intro gb404 hg w29 hbox hb; have n0_ := Aside0.mk (blk_below (g := gb401) (o := .cells #[.slice A0_0 l0_0.length c0_0, .slice (some ad403) l0_1.length c0_1] 44 (0, 0)) (by (with_reducible repeat (first | refine blk_drewN ?_ _ | refine blk_drew ?_ | refine blk_alloc ?_ _)); exact BK401.out) hb); have n1_ := Aside0.mk (below_step (by repeat (first | (with_reducible first | exact HB.out | apply below_alloc | apply pw_below_drewN | apply below_drew1 | refine below_set ?_ GE401.out) | exact HB.out)) hb); have n2_ := Aside0.mk (hbox); have n3_ := Aside0.mk ((by rw [hg]; exact (below_size (by repeat (first | (with_reducible first | exact HB.out | apply below_alloc | apply pw_below_drewN | apply below_drew1 | refine below_set ?_ GE401.out) | exact HB.out))) : w.heap.size ≤ gb404)); have n4_ := Aside0.mk ((by rw [hg]; exact (below_size (by repeat (first | (with_reducible first | exact HB.out | apply below_alloc | apply pw_below_drewN | apply below_drew1 | refine below_set ?_ GE401.out) | exact HB.out))) : w.heap.size ≤ gb404)); have n5_ := Aside0.mk ((by rw [hg]; exact Nat.ne_of_lt (blk_lt (g := gb401) (o := .cells #[.slice A0_0 l0_0.length c0_0, .slice (some ad403) l0_1.length c0_1] 44 (0, 0)) (by (with_reducible repeat (first | refine blk_drewN ?_ _ | refine blk_drew ?_ | refine blk_alloc ?_ _)); exact BK401.out)) : gb401 ≠ gb404)); have n6_ := Aside0.mk ((by rw [hg]; exact Nat.ne_of_gt (blk_lt (g := gb401) (o := .cells #[.slice A0_0 l0_0.length c0_0, .slice (some ad403) l0_1.length c0_1] 44 (0, 0)) (by (with_reducible repeat (first | refine blk_drewN ?_ _ | refine blk_drew ?_ | refine blk_alloc ?_ _)); exact BK401.out)) : gb404 ≠ gb401)); clear BK401; clear HB; have BK401 := n0_; have HB := n1_; have BK404 := n2_; have GW404 := n3_; have GE404 := n4_; have NB401_404 := n5_; have NB404_401 := n6_; clear n0_ n1_ n2_ n3_ n4_ n5_ n6_; clear hb hbox hg; have hnb30 := NB404_401.out; have hnc30 := NB401_404.out; have hcz31_0 : w29.cell? ⟨gb404, 0, none⟩ = some (.int .i64 0) := (blk_cell BK404.out 0).trans rfl; have hcz31_1 : w29.cell? ⟨gb404, 1, none⟩ = some (.slice none 0 0) := (blk_cell BK404.out 1).trans rfl; have hfz31_0 := blk_frozen BK404.out 0; have hfz31_1 := blk_frozen BK404.out 1; have hcz32_0 : w29.cell? ⟨gb401, 0, none⟩ = some (.slice A0_0 l0_0.length c0_0) := (blk_cell BK401.out 0).trans rfl; have hcz32_1 : w29.cell? ⟨gb401, 1, none⟩ = some (.slice (some ad403) l0_1.length c0_1) := (blk_cell BK401.out 1).trans rfl; have hfz32_0 := blk_frozen BK401.out 0; have hfz32_1 := blk_frozen BK401.out 1))
                              go_roundg k3
                              case measure => have := HJ1.out; have := HK2.out; have := HK3.out; omega
                              case rel => exact ⟨(wrap64 (x37_3 + 1)), (by first | rfl | (simp; done) | (simp [*]; done)), H', ⟨by have := HJ1.out; have := HK2.out; have := HK3.out; omega⟩, ⟨by (with_reducible repeat (first | refine blk_drewN ?_ _ | refine blk_drew ?_ | refine blk_alloc ?_ _)); refine blk_far ?_ NB401_404.out _; (with_reducible repeat (first | refine blk_drewN ?_ _ | refine blk_drew ?_ | refine blk_alloc ?_ _)); refine blk_far ?_ NB401_404.out _; (with_reducible repeat (first | refine blk_drewN ?_ _ | refine blk_drew ?_ | refine blk_alloc ?_ _)); exact BK401.out⟩, ⟨by repeat (first | (with_reducible first | exact HB.out | apply below_alloc | apply pw_below_drewN | apply below_drew1 | refine below_set ?_ GE401.out | refine below_set ?_ GE404.out) | exact HB.out)⟩⟩
                            · rw [if_neg c28] at H
                              have c28b0 : ((((rd_T185 l0_1 x37_3).f1).length : Int) == 64) = false := beq_eq_false_iff_ne.mpr c28
                              have c28b1 : ((((rd_T185 l0_1 x37_3).f1).length : Int) != 64) = true := bne_iff_ne.mpr c28
                              obtain rfl := Option.some.inj H
                              have p403 : 0 ≤ (x37_3 : Int) := of_decide_eq_true (by first | (with_reducible assumption) | assumption)
                              have q403 : x37_3 < (l0_1.length : Int) := of_decide_eq_true (by first | (with_reducible assumption) | assumption)
                              obtain ⟨ad403, A403_1, c403_1, e403, hx403_0, hx403_1, hl403_1, hi403_1⟩ := at_T185 HR0_1.out x37_3 p403 q403
                              cases e403
                              replace hx403_0 := (HB.out.cell (World.block_lt_of_cell? w _ hx403_0)).trans hx403_0
                              replace hx403_1 := (HB.out.cell (World.block_lt_of_cell? w _ hx403_1)).trans hx403_1
                              have HR403_1 := Aside0.mk hi403_1
                              have HC403_1 := Aside0.mk hl403_1
                              clear hi403_1 hl403_1
                              replace p403 := eq_true p403
                              replace q403 := eq_true q403
                              go_wp2_with (first | ((with_reducible refine gate_dst (N := 6) rfl ?_); (try (refine gate_guard (by rfl) ?_; dsimp only)); refine box_event ?hg (N := 6) ?hd (cs := #[.int .i64 0, .slice none 0 0]) (t := 185) ?hr ?_; (case hd => rfl); (case hg => rfl); (case hr => first | (go_simp; done) | (go_simp; rfl)); intro gb404 hg w33 hbox hb; have n0_ := Aside0.mk (blk_below (g := gb401) (o := .cells #[.slice A0_0 l0_0.length c0_0, .slice (some ad403) l0_1.length c0_1] 44 (0, 0)) (by (with_reducible repeat (first | refine blk_drewN ?_ _ | refine blk_drew ?_ | refine blk_alloc ?_ _)); exact BK401.out) hb); have n1_ := Aside0.mk (below_step (by repeat (first | (with_reducible first | exact HB.out | apply below_alloc | apply pw_below_drewN | apply below_drew1 | refine below_set ?_ GE401.out) | exact HB.out)) hb); have n2_ := Aside0.mk (hbox); have n3_ := Aside0.mk ((by rw [hg]; exact (below_size (by repeat (first | (with_reducible first | exact HB.out | apply below_alloc | apply pw_below_drewN | apply below_drew1 | refine below_set ?_ GE401.out) | exact HB.out))) : w.heap.size ≤ gb404)); have n4_ := Aside0.mk ((by rw [hg]; exact (below_size (by repeat (first | (with_reducible first | exact HB.out | apply below_alloc | apply pw_below_drewN | apply below_drew1 | refine below_set ?_ GE401.out) | exact HB.out))) : w.heap.size ≤ gb404)); have n5_ := Aside0.mk ((by rw [hg]; exact Nat.ne_of_lt (blk_lt (g := gb401) (o := .cells #[.slice A0_0 l0_0.length c0_0, .slice (some ad403) l0_1.length c0_1] 44 (0, 0)) (by (with_reducible repeat (first | refine blk_drewN ?_ _ | refine blk_drew ?_ | refine blk_alloc ?_ _)); exact BK401.out)) : gb401 ≠ gb404)); have n6_ := Aside0.mk ((by rw [hg]; exact Nat.ne_of_gt (blk_lt (g := gb401) (o := .cells #[.slice A0_0 l0_0.length c0_0, .slice (some ad403) l0_1.length c0_1] 44 (0, 0)) (by (with_reducible repeat (first | refine blk_drewN ?_ _ | refine blk_drew ?_ | refine blk_alloc ?_ _)); exact BK401.out)) : gb404 ≠ gb401)); clear BK401; clear HB; have BK401 := n0_; have HB := n1_; have BK404 := n2_; have GW404 := n3_; have GE404 := n4_; have NB401_404 := n5_; have NB404_401 := n6_; clear n0_ n1_ n2_ n3_ n4_ n5_ n6_; clear hb hbox hg; have hnb34 := NB404_401.out; have hnc34 := NB401_404.out; have hcz35_0 : w33.cell? ⟨gb404, 0, none⟩ = some (.int .i64 0) := (blk_cell BK404.out 0).trans rfl; have hcz35_1 : w33.cell? ⟨gb404, 1, none⟩ = some (.slice none 0 0) := (blk_cell BK404.out 1).trans rfl; have hfz35_0 := blk_frozen BK404.out 0; have hfz35_1 := blk_frozen BK404.out 1; have hcz36_0 : w33.cell? ⟨gb401, 0, none⟩ = some (.slice A0_0 l0_0.length c0_0) := (blk_cell BK401.out 0).trans rfl; have hcz36_1 : w33.cell? ⟨gb401, 1, none⟩ = some (.slice (some ad403) l0_1.length c0_1) := (blk_cell BK401.out 1).trans rfl; have hfz36_0 := blk_frozen BK401.out 0; have hfz36_1 := blk_frozen BK401.out 1))
                              go_ret
                              exact ⟨by first | rfl | (simp [errW_none, errW_some] <;> rfl) | (simp [*, errW_none, errW_some] <;> rfl), by repeat (first | (with_reducible first | exact HB.out | apply below_alloc | apply pw_below_drewN | apply below_drew1 | refine below_set ?_ GE401.out | refine below_set ?_ GE404.out) | exact HB.out)⟩
                      · rw [if_neg c18] at H
                        exact absurd H (by simp)
                    · rw [if_neg c17] at H
                      exact absurd H (by simp)
                  · rw [if_neg c16] at H
                    have c16b0 : decide (x37_3 < (l0_1.length : Int)) = false := decide_eq_false c16
                    clear c16
                    obtain rfl := Option.some.inj H
                    go_wp2
                    go_ret
                    exact ⟨by first | rfl | (simp [errW_none, errW_some] <;> rfl) | (simp [*, errW_none, errW_some] <;> rfl), by repeat (first | (with_reducible first | exact HB.out | apply below_alloc | apply pw_below_drewN | apply below_drew1 | refine below_set ?_ GE401.out) | exact HB.out)⟩

end Go.Proofs.Ytlopmffdebhpfaa.G

/-! ## DPage -/
namespace Go.Proofs.Ytlopmffdebhpfaa.G
open Go.RowKit Go.Proofs.YtlopmffdebhpfaaW.PrintWords Go.Proofs.YtlopmffdebhpfaaW.PrintLast Go.Proofs.YtlopmffdebhpfaaW.PrintMore
set_option linter.unusedVariables false
set_option linter.unusedSimpArgs false

theorem F_of_R {w : World} {base e : Nat} {ok : Nat → Prop} {A : Option Addr} {n c : Nat} {xs : List Int} (h : Kd.R (Kd.int .u8) e w base ok (.slice A n c) xs) : Kd.F (Kd.int .u8) w ok A xs.length xs := by
  rcases Nat.eq_zero_or_pos xs.length with h0 | hp
  · obtain rfl := List.eq_nil_of_length_eq_zero h0
    intro W' _
    exact ⟨rfl, Nat.zero_le _, fun h => absurd h (Nat.lt_irrefl 0)⟩
  · obtain ⟨g, cap, ev, _⟩ := Kd.R_form h hp
    injection ev with ev1 _ _
    subst ev1
    have hC := (Kd.R_reads' h).2.2
    obtain ⟨_, h2, h3⟩ := C_cells hC
    obtain ⟨ad, e1, hc⟩ := h3 hp
    obtain rfl := Option.some.inj e1
    exact F_of_cells (h.1 g (by simp [Value.ownBlock])) h2 (fun j x hx => by have := hc j x hx; rwa [add_plain] at this)
/-- The bytes of the first n sectors of a page. -/
def accS (safe : List (List Int)) (ps : List S185) (id : Int) : Nat → Option (List Int)
  | 0 => some []
  | n + 1 => (accS safe ps id n).bind fun a => (impl_sector.f safe ps (4 * id + n)).bind fun p => if a.length + p.1.length < 140737488355328 then some (a ++ p.1) else none
def impl_dpage.f (k : Nat) (safe : List (List Int)) (ps : List S185) (id : Int) : Option (Nat × Int × Int × Int × List Int) :=
  if 0 ≤ id ∧ id < (safe.length : Int) / 4 then (accS safe ps id 4).bind fun b => impl_parsePage.f k id b else some (1, 0, 0, 0, [])
theorem accS_some {safe : List (List Int)} {ps : List S185} {id : Int} : ∀ (n m : Nat) {b : List Int}, accS safe ps id n = some b → m ≤ n → ∃ a, accS safe ps id m = some a
  | 0, m, b, h, hm => ⟨b, by rw [show m = 0 by omega]; exact h⟩
  | n + 1, m, b, h, hm => by
    rcases Nat.lt_or_ge n m with h1 | h1
    · exact ⟨b, by rw [show m = n + 1 by omega]; exact h⟩
    · obtain ⟨a, ha, _⟩ := Option.bind_eq_some_iff.mp h
      exact accS_some n m ha h1
set_option maxHeartbeats 4000000 in
set_option maxRecDepth 100000 in
theorem impl_dpage.calls (k : Nat) (g b n : Nat) (A0 : Option Addr) (c0 : Nat) (safe : List (List Int)) (A1 : Option Addr) (c1 : Nat) (ps : List S185) (id : Int) (r : Nat × Int × Int × Int × List Int) (w0 w : World) (hd : IsDev w g b A0 safe.length c0 A1 ps.length c1) (hl : LMap w b n (lastM ps)) (hgb : g ≠ b) (hB : Below w0.heap.size w0 w) (hg : w0.heap.size ≤ g)
    (hr0 : Kd.C (Kd.slice 5 (Kd.int .u8)) w0 A0 safe.length safe) (hr1 : Kd.C k185 w0 A1 ps.length ps) (hc0 : safe.length ≤ c0) (hc1 : ps.length ≤ c1) (hi : (Lit.int .i64 id).wf = true) (h : impl_dpage.f k safe ps id = some r) :
    Calls Try.prog 118 #[.pointer (some ⟨g, 0, none⟩), .int .i64 id] w fun e w' => ∃ A c, e = .returned (.tuple #[.agg #[.int .i64 r.2.1, .int .i64 r.2.2.1, .int .i64 r.2.2.2.1, .slice A r.2.2.2.2.length c], perr r.1]) ∧ r.2.2.2.2.length ≤ c ∧ Kd.F (Kd.int .u8) w' (fun q => w.heap.size ≤ q) A r.2.2.2.2.length r.2.2.2.2 ∧ Below w.heap.size w w' := by
  have hu44 := Try.underlying44
  have hu102 := Try.underlying102
  have hu159 := Try.underlying159
  have hn0 : safe.length ≤ 9223372036854775807 := hr0.2.1
  have HR0 := Aside0.mk hr0
  have HR1 := Aside0.mk hr1
  have HC0 := Aside0.mk hc0
  have HC1 := Aside0.mk hc1
  have HD := Aside0.mk hd
  have HL := Aside0.mk hl
  have HBW := Aside0.mk hB
  have HG := Aside0.mk hg
  have hpg : impl_Disk_pages.f safe ps = some ((safe.length : Int) / 4) := by
    unfold impl_Disk_pages.f
    congr 1
    unfold wrap64
    omega
  have NP := Aside0.mk hpg
  clear hr0 hr1 hc0 hc1 hd hl hB hg hpg
  unfold impl_dpage.f at h
  by_cases hlo : id < 0
  · rw [if_neg (by omega)] at h
    obtain rfl := Option.some.inj h
    have d1 : decide (id < 0) = true := decide_eq_true hlo
    go_enter Try.func118, Try.ntmps118
    go_wp2_with (first | ((with_reducible refine gate_dst (N := 4) rfl ?_); refine box_event ?hg (N := 4) ?hd (cs := #[.int .i64 0, .int .i64 0, .int .i64 0, .slice none 0 0]) (t := 102) ?hr ?_; (case hd => rfl); (case hg => rfl); (case hr => first | (go_simp; done) | (go_simp; rfl)); intro gr hgr w1 hbox hbel; have BR := Aside0.mk hbox; have HB := Aside0.mk hbel; have GR := Aside0.mk hgr; have hz2 : w1.cell? ⟨g, 2, none⟩ = some (.slice A0 safe.length c0) := (blk_cell (blk_below HD.out hbel) 2).trans rfl; have hz3 : w1.cell? ⟨g, 3, none⟩ = some (.slice A1 ps.length c1) := (blk_cell (blk_below HD.out hbel) 3).trans rfl; clear hbox hbel hgr) | ((with_reducible refine gate_ (.store 102 (.tmp 4) (.tmp 21)) rfl ?_); refine store_blk rfl rfl 102 (.tmp 4) (.tmp 21) rfl (off := 0) (u := .agg #[.int .i64 0, .int .i64 0, .int .i64 0, .slice none 0 0]) #[.int .i64 0, .int .i64 0, .int .i64 0, .slice none 0 0] rfl rfl BR.out [.int .i64 0, .int .i64 0, .int .i64 0, .slice none 0 0] rfl (by kernel_rfl) (Nat.le_of_ble_eq_true rfl) rfl rfl ?_; intro w9 hblk hgrw; have BR2 := Aside0.mk hblk; have HB2 := Aside0.mk (HB.out.grown hgrw HB.out.size (by intro q hq; cases hq; exact Nat.le_of_eq GR.out.symm)); clear hblk hgrw))
    refine bodyPost_ret (results_cell_slot rfl _ _ gr 102 #[.int .i64 0, .int .i64 0, .int .i64 0, .slice none 0 0] (0, 0) _ _ rfl rfl BR2.out Try.underlying102 rfl (by kernel_rfl)) rfl ?_
    first | exact ⟨none, 0, rfl, Nat.le_refl _, Kd.F_nil _ _ _, HB2.out⟩ | exact ⟨none, ⟨0, rfl⟩, Kd.F_nil _ _ _, HB2.out⟩
  have d1 : decide (id < 0) = false := decide_eq_false hlo
  go_enter Try.func118, Try.ntmps118
  go_wp2_with (first | ((with_reducible refine gate_dst (N := 4) rfl ?_); refine box_event ?hg (N := 4) ?hd (cs := #[.int .i64 0, .int .i64 0, .int .i64 0, .slice none 0 0]) (t := 102) ?hr ?_; (case hd => rfl); (case hg => rfl); (case hr => first | (go_simp; done) | (go_simp; rfl)); intro gr hgr w1 hbox hbel; have BR := Aside0.mk hbox; have HB := Aside0.mk hbel; have GR := Aside0.mk hgr; have hz2 : w1.cell? ⟨g, 2, none⟩ = some (.slice A0 safe.length c0) := (blk_cell (blk_below HD.out hbel) 2).trans rfl; have hz3 : w1.cell? ⟨g, 3, none⟩ = some (.slice A1 ps.length c1) := (blk_cell (blk_below HD.out hbel) 3).trans rfl; clear hbox hbel hgr))
  refine (impl_Disk_pages.calls A0 c0 safe A1 c1 ps _ _ (Kd.C_below HR0.out (below_step HBW.out HB.out)) HC0.out (Kd.C_below HR1.out (below_step HBW.out HB.out)) HC1.out NP.out).mono ?_
  rintro e w2 ⟨rfl, hb⟩
  have BR := Aside0.mk (blk_below BR.out hb)
  have HB := Aside0.mk (below_step HB.out hb)
  clear hb hz2 hz3
  by_cases hhi : id < (safe.length : Int) / 4
  case neg =>
    rw [if_neg (by omega)] at h
    obtain rfl := Option.some.inj h
    have d2 : decide ((safe.length : Int) / 4 ≤ id) = true := decide_eq_true (by omega)
    go_wp2_with (first | ((with_reducible refine gate_ (.store 102 (.tmp 4) (.tmp 21)) rfl ?_); refine store_blk rfl rfl 102 (.tmp 4) (.tmp 21) rfl (off := 0) (u := .agg #[.int .i64 0, .int .i64 0, .int .i64 0, .slice none 0 0]) #[.int .i64 0, .int .i64 0, .int .i64 0, .slice none 0 0] rfl rfl BR.out [.int .i64 0, .int .i64 0, .int .i64 0, .slice none 0 0] rfl (by kernel_rfl) (Nat.le_of_ble_eq_true rfl) rfl rfl ?_; intro w9 hblk hgrw; have BR2 := Aside0.mk hblk; have HB2 := Aside0.mk (HB.out.grown hgrw HB.out.size (by intro q hq; cases hq; exact Nat.le_of_eq GR.out.symm)); clear hblk hgrw))
    refine bodyPost_ret (results_cell_slot rfl _ _ gr 102 #[.int .i64 0, .int .i64 0, .int .i64 0, .slice none 0 0] (0, 0) _ _ rfl rfl BR2.out Try.underlying102 rfl (by kernel_rfl)) rfl ?_
    first | exact ⟨none, 0, rfl, Nat.le_refl _, Kd.F_nil _ _ _, HB2.out⟩ | exact ⟨none, ⟨0, rfl⟩, Kd.F_nil _ _ _, HB2.out⟩
  rw [if_pos (by omega)] at h
  obtain ⟨bs, H1, H2⟩ := Option.bind_eq_some_iff.mp h
  have N1 := Aside0.mk H1
  have N2 := Aside0.mk H2
  clear h H1 H2
  have d2 : decide ((safe.length : Int) / 4 ≤ id) = false := decide_eq_false (by omega)
  have hid : 0 ≤ id ∧ 4 * id + 4 ≤ safe.length := by omega
  have HID := Aside0.mk hid
  have HN0 := Aside0.mk hn0
  have GRW : Aside0 (w.heap.size ≤ gr) := ⟨Nat.le_of_eq GR.out.symm⟩
  clear hid hn0
  go_wp2_with fail
  go_loopg [6, 23] 4 (fun gk v6 v23 w' => ∃ (x : Int) (acc : List Int), v23 = .int .i64 x ∧ Aside0 (0 ≤ x ∧ (gk : Int) + x = 4) ∧ Aside0 (accS safe ps id x.toNat = some acc) ∧ Aside0 (Kd.R (Kd.int .u8) 5 w' w.heap.size (fun q => q ≠ gr) v6 acc) ∧ Aside0 (w'.heap[gr]? = some (.cells #[.int .i64 0, .int .i64 0, .int .i64 0, .slice none 0 0] 102 (0, 0))) ∧ Aside0 (Below w.heap.size w w'))
  case atStart =>
    exact ⟨0, [], rfl, ⟨by omega⟩, ⟨rfl⟩, ⟨Kd.R_nil _ _ _ _ _⟩, BR, HB⟩
  case round =>
    clear BR HB
    obtain ⟨x, acc, rfl, HXK, HA, HO, BR, HB⟩ := hrel
    cases gk with
    | zero =>
      have hx : x = 4 := by have := HXK.out; omega
      subst hx
      have hacc := HA.out
      rw [show (4 : Int).toNat = 4 from rfl, N1.out] at hacc
      obtain rfl := Option.some.inj hacc
      clear hacc
      obtain ⟨A6, c6, rfl⟩ := Kd.R_slice HO.out
      go_wp2_with fail
      refine (impl_parsePage.calls k id A6 c6 bs r _ (fun q => q ≠ gr ∧ w.heap.size ≤ q) (F_of_R (Kd.R_mono (Kd.R_bound HO.out) (fun q hq => ⟨hq.1, hq.2.1⟩))) (Kd.R_reads' HO.out).2.1 N2.out).mono ?_
      rintro e w5 ⟨A5, c5, rfl, hc5, hf5, hb5⟩
      have BR := Aside0.mk (blk_below BR.out hb5)
      have HB := Aside0.mk (below_step HB.out hb5)
      have HF := Aside0.mk hf5
      have HC5 := Aside0.mk hc5
      clear hb5 hf5 hc5
      obtain ⟨tag, rid, rkind, rsize, body⟩ := r
      simp only at HF HC5 ⊢
      go_wp2_with (first | ((with_reducible refine gate_ (.store 102 (.tmp 4) (.tmp 42)) rfl ?_); refine store_blk rfl rfl 102 (.tmp 4) (.tmp 42) rfl (off := 0) (u := .agg #[.int .i64 rid, .int .i64 rkind, .int .i64 rsize, .slice A5 body.length c5]) #[.int .i64 rid, .int .i64 rkind, .int .i64 rsize, .slice A5 body.length c5] rfl rfl BR.out [.int .i64 rid, .int .i64 rkind, .int .i64 rsize, .slice A5 body.length c5] rfl (by kernel_rfl) (Nat.le_of_ble_eq_true rfl) rfl rfl ?_; intro w9 hblk hgrw; have BR2 := Aside0.mk hblk; have HB2 := Aside0.mk (HB.out.grown hgrw HB.out.size (by intro q hq; cases hq; exact GRW.out)); have HCF := Aside0.mk (Kd.F_mono (Kd.F_grown HF.out hgrw (fun q hq e => hq.1 (Option.some.inj e))) (fun q hq => hq.2)); clear hblk hgrw))
      refine bodyPost_ret (results_cell_slot rfl _ _ gr 102 #[.int .i64 rid, .int .i64 rkind, .int .i64 rsize, .slice A5 body.length c5] (0, 0) _ _ rfl rfl BR2.out Try.underlying102 rfl (by kernel_rfl)) rfl ?_
      exact ⟨A5, c5, rfl, HC5.out, HCF.out, HB2.out⟩
    | succ gk =>
      have p0 : 0 ≤ x := HXK.out.1
      have q0 : x < 4 := by have := HXK.out; omega
      have HP0 := Aside0.mk p0
      have HQ0 := Aside0.mk q0
      have c4b0 : decide (x < 4) = true := decide_eq_true q0
      obtain ⟨nx, hnx⟩ := accS_some 4 (x.toNat + 1) N1.out (by omega)
      have hst := hnx
      unfold accS at hst
      rw [HA.out] at hst
      simp only [Option.bind_some] at hst
      obtain ⟨⟨sl, sb⟩, hs1, hs2⟩ := Option.bind_eq_some_iff.mp hst
      split at hs2
      case isFalse => cases hs2
      rename_i hlt
      obtain rfl := Option.some.inj hs2
      dsimp only at hlt hnx
      have hxx : 4 * id + ((x.toNat : Nat) : Int) = 4 * id + x := by omega
      rw [hxx] at hs1
      have hwr : wrap64 (wrap64 (4 * id) + x) = 4 * id + x := by have := HID.out; have := HN0.out; unfold wrap64; omega
      have hwf4 : (Lit.int .i64 (4 * id + x)).wf = true := WalkArith.wf_i64 (by have := HID.out; have := HN0.out; omega)
      have NS := Aside0.mk hs1
      have NX := Aside0.mk hnx
      have NL := Aside0.mk hlt
      have NW := Aside0.mk hwr
      have NF := Aside0.mk hwf4
      have HDx := Aside0.mk (show IsDev wr g b A0 safe.length c0 A1 ps.length c1 from blk_below HD.out HB.out)
      have HLx := Aside0.mk (LMap_step HL.out (HB.out.block b (LMap_lt HL.out)))
      clear hs1 hnx hst hlt hwr hwf4 hxx hs2 p0 q0
      go_wp2_with fail
      have hwr := NW.out
      rw [hwr]
      clear hwr
      refine (impl_sector.calls g b n A0 c0 safe A1 c1 ps (4 * id + x) sl sb w0 _ HDx.out HLx.out hgb (below_step HBW.out HB.out) HG.out HR0.out HR1.out NF.out NS.out).mono ?_
      rintro e w3 ⟨A3, c3, rfl, hl3, hC3, hb3⟩
      have BR := Aside0.mk (blk_below BR.out hb3)
      have HO := Aside0.mk (Kd.R_below HO.out hb3)
      have HB := Aside0.mk (below_step HB.out hb3)
      have HC3 := Aside0.mk hC3
      have HGL : Aside0 (gr < w3.heap.size) := ⟨blk_lt BR.out⟩
      clear hC3 hl3 hb3 HDx HLx
      go_wp2_with (first | ((with_reducible refine gate_builtin (b := .append) (xs := #[.tmp 35, .tmp 36]) rfl ?_); at_builtin; refine Kd.R_append_rows (Kd.int .u8) (w0 := w) w.heap.size rfl (.tmp 35) (.tmp 36) 22 5 (.int .u8 0) 1 rfl Try.underlying22 info5 rfl (by decide) (by omega) u6 acc sl _ _ _ (fun q => q ≠ gr) (fun _ => False) rfl rfl ?aO ?aR (fun _ _ h => h) (fun _ h => h.elim) ?aF ?aB ?aS ?aL ?_; (case aR => exact Kd.C_below HC3.out (below_step HBW.out HB.out)); (case aB => exact HB.out); (case aF => exact (fun q hq => by have := HGL.out; omega)); (case aO => exact HO.out); (case aS => exact HB.out.size); (case aL => have := NL.out; omega); intro v7 w4 ho hb hgrw hat; have HO7 := Aside0.mk ho; have HB7 := Aside0.mk hb; have BR7 := Aside0.mk (blk_grown BR.out hgrw (fun e => HO.out.1 gr e.symm rfl)); clear ho hb hgrw hat))
      go_roundg gk
      case measure => omega
      case rel =>
        have hw1 : wrap64 (x + 1) = x + 1 := by have := HP0.out; have := HQ0.out; unfold wrap64; omega
        have ht1 : (x + 1).toNat = x.toNat + 1 := by have := HP0.out; omega
        exact ⟨x + 1, acc ++ sl, by first | rfl | (rw [hw1]), ⟨by have := HXK.out; omega⟩, ⟨by rw [ht1]; exact NX.out⟩, HO7, BR7, HB7⟩

end Go.Proofs.Ytlopmffdebhpfaa.G
