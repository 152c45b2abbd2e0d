/- The law FnExactReadSector is true of every argument: its row, out of the walk. Conditions: none beyond the given statement. -/
import Derived.Test.YtlopmffdebhpfaaK5a
import Derived.Test.YtlopmffdebhpfaaK5b
import Derived.Test.YtlopmffdebhpfaaK5c
import Derived.Lib.SmallJoins
import Derived.Test.YtlopmffdebhpfaaRows
import Derived.WalkKit
import Derived.ProofKit
import Derived.OpenShut
import Derived.ShutString
import Derived.ChangeOld
import Derived.Below
import Derived.SizedLaws
import Derived.Test.YtlopmffdebhpfaaWSized
/-! ## G91 -/
namespace Go.Proofs.Ytlopmffdebhpfaa.G
open Go.RowKit Go.Proofs.YtlopmffdebhpfaaW.PrintWords Go.Proofs.YtlopmffdebhpfaaW.PrintLast Go.Proofs.YtlopmffdebhpfaaW.PrintMore
attribute [local go_sem] max2_int min2_int max_two min_two max_three min_three max_four min_four
set_option linter.unusedVariables false
set_option linter.unusedSimpArgs false

/-! ### laws_eqByteSS: function 91 -/
def laws_eqByteSS.l0 : Nat → List (List Int) → List (List Int) → Int → Option (Bool)
  | 0, _, _, _ => none
  | k + 1, x0, x1, x5 => if x5 < (x0.length : Int) then (if 0 ≤ x5 then (if x5 < (x1.length : Int) then ((laws_eqByteS.f k (rd_L2 x0 x5) (rd_L2 x1 x5)).bind fun t409 => (if t409 = true then (laws_eqByteSS.l0 k x0 x1 (wrap64 (x5 + 1))) else (some false))) else (none)) else (none)) else (some true)
def laws_eqByteSS.f (k : Nat) (l0 : List (List Int)) (l1 : List (List Int)) : Option (Bool) := if (l0.length : Int) = (l1.length : Int) then (laws_eqByteSS.l0 k l0 l1 0) else (some false)
set_option maxRecDepth 100000 in
theorem laws_eqByteSS.mono_l : ∀ k, (∀ y0 y1 y2, LeO (laws_eqByteSS.l0 k y0 y1 y2) (laws_eqByteSS.l0 (k + 1) y0 y1 y2))
  | 0 => fun _ _ _ r h => by simp [laws_eqByteSS.l0] at h
  | k + 1 => by
    have ih0 := laws_eqByteSS.mono_l k
    · intro y0 y1 y2
      unfold laws_eqByteSS.l0
      repeat' first
      | (with_reducible exact ih0 _ _ _)
      | (with_reducible exact laws_eqByteS.mono _ _ _)
      | (with_reducible exact LeO.refl _)
      | (with_reducible exact LeO.none _)
      | (with_reducible refine LeO.ite ?_ ?_)
      | (with_reducible refine LeO.bind ?_ (fun _ => ?_))
      | exact ih0 _ _ _
      | exact laws_eqByteS.mono _ _ _
      | exact LeO.none _
      | refine LeO.ite ?_ ?_
      | refine LeO.bind ?_ (fun _ => ?_)
set_option maxRecDepth 100000 in
theorem laws_eqByteSS.mono : ∀ a0 a1 k, LeO (laws_eqByteSS.f k a0 a1) (laws_eqByteSS.f (k + 1) a0 a1) := by
  intro a0 a1 k
  have ih0 := laws_eqByteSS.mono_l k
  unfold laws_eqByteSS.f
  repeat' first
      | (with_reducible exact ih0 _ _ _)
      | (with_reducible exact laws_eqByteS.mono _ _ _)
      | (with_reducible exact LeO.refl _)
      | (with_reducible exact LeO.none _)
      | (with_reducible refine LeO.ite ?_ ?_)
      | (with_reducible refine LeO.bind ?_ (fun _ => ?_))
      | exact ih0 _ _ _
      | exact laws_eqByteS.mono _ _ _
      | exact LeO.none _
      | refine LeO.ite ?_ ?_
      | refine LeO.bind ?_ (fun _ => ?_)
set_option maxHeartbeats 8000000 in
set_option maxRecDepth 100000 in
theorem laws_eqByteSS.calls (k : Nat) (A0 : Option Addr) (c0 : Nat) (l0 : List (List Int)) (A1 : Option Addr) (c1 : Nat) (l1 : List (List Int)) (r : Bool) (w : World) (hr0 : Kd.C (Kd.slice 5 (Kd.int .u8)) w A0 l0.length l0) (hc0 : l0.length ≤ c0) (hr1 : Kd.C (Kd.slice 5 (Kd.int .u8)) w A1 l1.length l1) (hc1 : l1.length ≤ c1) (h : laws_eqByteSS.f k l0 l1 = some r) :
    Calls Try.prog 91 #[.slice A0 l0.length c0, .slice A1 l1.length c1] w fun e w' => e = .returned (.bool r) ∧ Drawn0 w w' := by
  have HR0 := Aside0.mk hr0
  have HC0 := Aside0.mk hc0
  clear hr0 hc0
  have HR1 := Aside0.mk hr1
  have HC1 := Aside0.mk hc1
  clear hr1 hc1
  have H : (if (l0.length : Int) = (l1.length : Int) then (laws_eqByteSS.l0 k l0 l1 0) else (some false)) = some r := h
  clear h
  by_cases c3 : (l0.length : Int) = (l1.length : Int)
  · rw [if_pos c3] at H
    have c3b0 : ((l0.length : Int) == (l1.length : Int)) = true := beq_iff_eq.mpr c3
    have c3b1 : ((l0.length : Int) != (l1.length : Int)) = false := bne_eq_false_iff_eq.mpr c3
    have c3b2 : (l0.length == l1.length) = true := by first | simpa using c3 | (simp at c3 ⊢; omega)
    clear c3
    have H' := Aside0.mk H
    clear H
    go_enter Try.func91, Try.ntmps91
    go_wp2
    repeat (go_quiet (fail); try go_wp2)
    go_loopg [5] k (fun kq v5 w' => ∃ (x5_1 : Int), v5 = .int .i64 x5_1 ∧ Aside0 (laws_eqByteSS.l0 kq l0 l1 x5_1 = some r) ∧ Aside0 (kq ≤ k) ∧ Drawn0 w w')
    case atStart => exact ⟨(0), (by first | rfl | (simp; done) | (simp [*]; done)), H', ⟨Nat.le_refl _⟩, by repeat (first | exact Drawn0.refl _ | apply Drawn0.step)⟩
    case round =>
      clear H'
      try clear c1
      try clear p2
      try clear c3
      try clear c3b0
      try clear c3b1
      try clear c3b2
      obtain ⟨x5_1, rfl, HA, HK1, ⟨m1, rfl⟩⟩ := hrel
      cases gk with
      | zero => exact absurd HA.out (by simp [laws_eqByteSS.l0])
      | succ k1 =>
        have H := HA.out
        clear HA
        simp only [laws_eqByteSS.l0] at H
        by_cases c4 : x5_1 < (l0.length : Int)
        · rw [if_pos c4] at H
          have c4b0 : decide (x5_1 < (l0.length : Int)) = true := decide_eq_true c4
          clear c4
          by_cases c5 : 0 ≤ x5_1
          · rw [if_pos c5] at H
            have c5b0 : decide (0 ≤ x5_1) = true := decide_eq_true c5
            clear c5
            by_cases c6 : x5_1 < (l1.length : Int)
            · rw [if_pos c6] at H
              have c6b0 : decide (x5_1 < (l1.length : Int)) = true := decide_eq_true c6
              clear c6
              replace H := Option.bind_eq_some_iff.mp H
              obtain ⟨t409, A70, H⟩ := H
              replace H : (if t409 = true then (laws_eqByteSS.l0 k1 l0 l1 (wrap64 (x5_1 + 1))) else (some false)) = some r := H
              have A7 := Aside0.mk A70
              clear A70
              by_cases c8 : t409 = true
              · subst c8
                have H1 : (laws_eqByteSS.l0 k1 l0 l1 (wrap64 (x5_1 + 1))) = some r := by rw [if_pos rfl] at H; exact H
                clear H
                have H := H1
                clear H1
                have H' := Aside0.mk H
                clear H
                have p407 : 0 ≤ (x5_1 : Int) := of_decide_eq_true (by first | (with_reducible assumption) | assumption)
                have q407 : x5_1 < (l0.length : Int) := of_decide_eq_true (by first | (with_reducible assumption) | assumption)
                obtain ⟨ad407, A407_0, c407_0, e407, hx407_0, hl407_0, hi407_0⟩ := at_L2 HR0.out x5_1 p407 q407
                cases e407
                have HR407_0 := Aside0.mk hi407_0
                have HC407_0 := Aside0.mk hl407_0
                clear hi407_0 hl407_0
                replace p407 := eq_true p407
                replace q407 := eq_true q407
                have p408 : 0 ≤ (x5_1 : Int) := of_decide_eq_true (by first | (with_reducible assumption) | assumption)
                have q408 : x5_1 < (l1.length : Int) := of_decide_eq_true (by first | (with_reducible assumption) | assumption)
                obtain ⟨ad408, A408_0, c408_0, e408, hx408_0, hl408_0, hi408_0⟩ := at_L2 HR1.out x5_1 p408 q408
                cases e408
                have HR408_0 := Aside0.mk hi408_0
                have HC408_0 := Aside0.mk hl408_0
                clear hi408_0 hl408_0
                replace p408 := eq_true p408
                replace q408 := eq_true q408
                go_wp2_with (first | (go_at_call 17; (with_reducible refine (laws_eqByteS.calls k1 _ _ (rd_L2 l0 x5_1) _ _ (rd_L2 l1 x5_1) true _ ?side1 ?side2 ?side3 ?side4 A7.out).mono ?_); (case side1 => repeat (first | exact HR407_0.out | (with_reducible refine Kd.C_alloc ?_ _) | (with_reducible refine Kd.C_drewN ?_ _) | (with_reducible refine Kd.C_drew ?_))); (case side2 => exact HC407_0.out); (case side3 => repeat (first | exact HR408_0.out | (with_reducible refine Kd.C_alloc ?_ _) | (with_reducible refine Kd.C_drewN ?_ _) | (with_reducible refine Kd.C_drew ?_))); (case side4 => exact HC408_0.out); rintro e w' ⟨rfl, ⟨nd, rfl⟩⟩; (try first | exact ⟨rfl, _, World.drewN_drewN _ _ _⟩ | exact ⟨rfl, _, Eq.trans (World.drewN_drewN _ _ _) (congrArg (World.drewN _) (Nat.add_assoc _ _ _))⟩)))
                repeat (go_quiet (first | (go_at_call 17; (with_reducible refine (laws_eqByteS.calls k1 _ _ (rd_L2 l0 x5_1) _ _ (rd_L2 l1 x5_1) true _ ?side1 ?side2 ?side3 ?side4 A7.out).mono ?_); (case side1 => repeat (first | exact HR407_0.out | (with_reducible refine Kd.C_alloc ?_ _) | (with_reducible refine Kd.C_drewN ?_ _) | (with_reducible refine Kd.C_drew ?_))); (case side2 => exact HC407_0.out); (case side3 => repeat (first | exact HR408_0.out | (with_reducible refine Kd.C_alloc ?_ _) | (with_reducible refine Kd.C_drewN ?_ _) | (with_reducible refine Kd.C_drew ?_))); (case side4 => exact HC408_0.out); rintro e w' ⟨rfl, ⟨nd, rfl⟩⟩; (try first | exact ⟨rfl, _, World.drewN_drewN _ _ _⟩ | exact ⟨rfl, _, Eq.trans (World.drewN_drewN _ _ _) (congrArg (World.drewN _) (Nat.add_assoc _ _ _))⟩))); try go_wp2_with (first | (go_at_call 17; (with_reducible refine (laws_eqByteS.calls k1 _ _ (rd_L2 l0 x5_1) _ _ (rd_L2 l1 x5_1) true _ ?side1 ?side2 ?side3 ?side4 A7.out).mono ?_); (case side1 => repeat (first | exact HR407_0.out | (with_reducible refine Kd.C_alloc ?_ _) | (with_reducible refine Kd.C_drewN ?_ _) | (with_reducible refine Kd.C_drew ?_))); (case side2 => exact HC407_0.out); (case side3 => repeat (first | exact HR408_0.out | (with_reducible refine Kd.C_alloc ?_ _) | (with_reducible refine Kd.C_drewN ?_ _) | (with_reducible refine Kd.C_drew ?_))); (case side4 => exact HC408_0.out); rintro e w' ⟨rfl, ⟨nd, rfl⟩⟩; (try first | exact ⟨rfl, _, World.drewN_drewN _ _ _⟩ | exact ⟨rfl, _, Eq.trans (World.drewN_drewN _ _ _) (congrArg (World.drewN _) (Nat.add_assoc _ _ _))⟩))))
                go_roundg k1
                case measure => have := HK1.out; omega
                case rel => exact ⟨(wrap64 (x5_1 + 1)), (by first | rfl | (simp; done) | (simp [*]; done)), H', ⟨by have := HK1.out; omega⟩, by repeat (first | exact Drawn0.refl _ | apply Drawn0.step)⟩
              · replace c8 := Bool.eq_false_iff.mpr c8
                subst c8
                have H1 : (some false) = some r := by rw [if_neg (show ¬ (false = true) by decide)] at H; exact H
                clear H
                have H := H1
                clear H1
                obtain rfl := Option.some.inj H
                have p407 : 0 ≤ (x5_1 : Int) := of_decide_eq_true (by first | (with_reducible assumption) | assumption)
                have q407 : x5_1 < (l0.length : Int) := of_decide_eq_true (by first | (with_reducible assumption) | assumption)
                obtain ⟨ad407, A407_0, c407_0, e407, hx407_0, hl407_0, hi407_0⟩ := at_L2 HR0.out x5_1 p407 q407
                cases e407
                have HR407_0 := Aside0.mk hi407_0
                have HC407_0 := Aside0.mk hl407_0
                clear hi407_0 hl407_0
                replace p407 := eq_true p407
                replace q407 := eq_true q407
                have p408 : 0 ≤ (x5_1 : Int) := of_decide_eq_true (by first | (with_reducible assumption) | assumption)
                have q408 : x5_1 < (l1.length : Int) := of_decide_eq_true (by first | (with_reducible assumption) | assumption)
                obtain ⟨ad408, A408_0, c408_0, e408, hx408_0, hl408_0, hi408_0⟩ := at_L2 HR1.out x5_1 p408 q408
                cases e408
                have HR408_0 := Aside0.mk hi408_0
                have HC408_0 := Aside0.mk hl408_0
                clear hi408_0 hl408_0
                replace p408 := eq_true p408
                replace q408 := eq_true q408
                go_wp2_with (first | (go_at_call 17; (with_reducible refine (laws_eqByteS.calls k1 _ _ (rd_L2 l0 x5_1) _ _ (rd_L2 l1 x5_1) false _ ?side1 ?side2 ?side3 ?side4 A7.out).mono ?_); (case side1 => repeat (first | exact HR407_0.out | (with_reducible refine Kd.C_alloc ?_ _) | (with_reducible refine Kd.C_drewN ?_ _) | (with_reducible refine Kd.C_drew ?_))); (case side2 => exact HC407_0.out); (case side3 => repeat (first | exact HR408_0.out | (with_reducible refine Kd.C_alloc ?_ _) | (with_reducible refine Kd.C_drewN ?_ _) | (with_reducible refine Kd.C_drew ?_))); (case side4 => exact HC408_0.out); rintro e w' ⟨rfl, ⟨nd, rfl⟩⟩; (try first | exact ⟨rfl, _, World.drewN_drewN _ _ _⟩ | exact ⟨rfl, _, Eq.trans (World.drewN_drewN _ _ _) (congrArg (World.drewN _) (Nat.add_assoc _ _ _))⟩)))
                repeat (go_quiet (first | (go_at_call 17; (with_reducible refine (laws_eqByteS.calls k1 _ _ (rd_L2 l0 x5_1) _ _ (rd_L2 l1 x5_1) false _ ?side1 ?side2 ?side3 ?side4 A7.out).mono ?_); (case side1 => repeat (first | exact HR407_0.out | (with_reducible refine Kd.C_alloc ?_ _) | (with_reducible refine Kd.C_drewN ?_ _) | (with_reducible refine Kd.C_drew ?_))); (case side2 => exact HC407_0.out); (case side3 => repeat (first | exact HR408_0.out | (with_reducible refine Kd.C_alloc ?_ _) | (with_reducible refine Kd.C_drewN ?_ _) | (with_reducible refine Kd.C_drew ?_))); (case side4 => exact HC408_0.out); rintro e w' ⟨rfl, ⟨nd, rfl⟩⟩; (try first | exact ⟨rfl, _, World.drewN_drewN _ _ _⟩ | exact ⟨rfl, _, Eq.trans (World.drewN_drewN _ _ _) (congrArg (World.drewN _) (Nat.add_assoc _ _ _))⟩))); try go_wp2_with (first | (go_at_call 17; (with_reducible refine (laws_eqByteS.calls k1 _ _ (rd_L2 l0 x5_1) _ _ (rd_L2 l1 x5_1) false _ ?side1 ?side2 ?side3 ?side4 A7.out).mono ?_); (case side1 => repeat (first | exact HR407_0.out | (with_reducible refine Kd.C_alloc ?_ _) | (with_reducible refine Kd.C_drewN ?_ _) | (with_reducible refine Kd.C_drew ?_))); (case side2 => exact HC407_0.out); (case side3 => repeat (first | exact HR408_0.out | (with_reducible refine Kd.C_alloc ?_ _) | (with_reducible refine Kd.C_drewN ?_ _) | (with_reducible refine Kd.C_drew ?_))); (case side4 => exact HC408_0.out); rintro e w' ⟨rfl, ⟨nd, rfl⟩⟩; (try first | exact ⟨rfl, _, World.drewN_drewN _ _ _⟩ | exact ⟨rfl, _, Eq.trans (World.drewN_drewN _ _ _) (congrArg (World.drewN _) (Nat.add_assoc _ _ _))⟩))))
                go_ret
                exact ⟨by first | rfl | (simp; done) | (simp [*]; done), by repeat (first | exact Drawn0.refl _ | apply Drawn0.step)⟩
            · rw [if_neg c6] at H
              exact absurd H (by simp)
          · rw [if_neg c5] at H
            exact absurd H (by simp)
        · rw [if_neg c4] at H
          have c4b0 : decide (x5_1 < (l0.length : Int)) = false := decide_eq_false c4
          clear c4
          obtain rfl := Option.some.inj H
          go_wp2
          repeat (go_quiet (fail); try go_wp2)
          go_ret
          exact ⟨by first | rfl | (simp; done) | (simp [*]; done), by repeat (first | exact Drawn0.refl _ | apply Drawn0.step)⟩
  · rw [if_neg c3] at H
    have c3b0 : ((l0.length : Int) == (l1.length : Int)) = false := beq_eq_false_iff_ne.mpr c3
    have c3b1 : ((l0.length : Int) != (l1.length : Int)) = true := bne_iff_ne.mpr c3
    have c3b2 : (l0.length == l1.length) = false := by first | simpa using c3 | (simp at c3 ⊢; omega)
    obtain rfl := Option.some.inj H
    go_enter Try.func91, Try.ntmps91
    go_wp2
    repeat (go_quiet (fail); try go_wp2)
    go_ret
    exact ⟨by first | rfl | (simp; done) | (simp [*]; done), by repeat (first | exact Drawn0.refl _ | apply Drawn0.step)⟩

end Go.Proofs.Ytlopmffdebhpfaa.G

/-! ## G141 -/
namespace Go.Proofs.Ytlopmffdebhpfaa.G
open Go.RowKit Go.Proofs.YtlopmffdebhpfaaW.PrintWords Go.Proofs.YtlopmffdebhpfaaW.PrintLast Go.Proofs.YtlopmffdebhpfaaW.PrintMore
attribute [local go_sem] max2_int min2_int max_two min_two max_three min_three max_four min_four
set_option linter.unusedVariables false
set_option linter.unusedSimpArgs false

/-! ### laws_eqPend: function 141 -/
def laws_eqPend.f (k : Nat) (a0_0 : Int) (l0_1 : List Int) (a1_0 : Int) (l1_1 : List Int) : Option (Bool) := if a0_0 = a1_0 then ((laws_eqByteS.f k l0_1 l1_1).bind fun t412 => (if t412 = true then (some true) else (some false))) else (some false)
set_option maxRecDepth 100000 in
theorem laws_eqPend.mono : ∀ a0 a1 a2 a3 k, LeO (laws_eqPend.f k a0 a1 a2 a3) (laws_eqPend.f (k + 1) a0 a1 a2 a3) := by
  intro a0 a1 a2 a3 k
  unfold laws_eqPend.f
  repeat' first
      | (with_reducible exact laws_eqByteS.mono _ _ _)
      | (with_reducible exact LeO.refl _)
      | (with_reducible exact LeO.none _)
      | (with_reducible refine LeO.ite ?_ ?_)
      | (with_reducible refine LeO.bind ?_ (fun _ => ?_))
      | exact laws_eqByteS.mono _ _ _
      | exact LeO.none _
      | refine LeO.ite ?_ ?_
      | refine LeO.bind ?_ (fun _ => ?_)
set_option maxHeartbeats 8000000 in
set_option maxRecDepth 100000 in
theorem laws_eqPend.calls (k : Nat) (a0_0 : Int) (A0_1 : Option Addr) (c0_1 : Nat) (l0_1 : List Int) (a1_0 : Int) (A1_1 : Option Addr) (c1_1 : Nat) (l1_1 : List Int) (r : Bool) (w : World) (hr0_1 : Kd.C (Kd.int .u8) w A0_1 l0_1.length l0_1) (hc0_1 : l0_1.length ≤ c0_1) (hr1_1 : Kd.C (Kd.int .u8) w A1_1 l1_1.length l1_1) (hc1_1 : l1_1.length ≤ c1_1) (h : laws_eqPend.f k a0_0 l0_1 a1_0 l1_1 = some r) :
    Calls Try.prog 141 #[.agg #[.int .i64 a0_0, .slice A0_1 l0_1.length c0_1], .agg #[.int .i64 a1_0, .slice A1_1 l1_1.length c1_1]] w fun e w' => e = .returned (.bool r) ∧ Below w.heap.size w w' := by
  have hu185 := Try.underlying185
  have HR0_1 := Aside0.mk hr0_1
  have HC0_1 := Aside0.mk hc0_1
  clear hr0_1 hc0_1
  have HR1_1 := Aside0.mk hr1_1
  have HC1_1 := Aside0.mk hc1_1
  clear hr1_1 hc1_1
  have HB := Aside0.mk (Below.refl w.heap.size w)
  have H : (if a0_0 = a1_0 then ((laws_eqByteS.f k l0_1 l1_1).bind fun t412 => (if t412 = true then (some true) else (some false))) else (some false)) = some r := h
  clear h
  by_cases c3 : a0_0 = a1_0
  · rw [if_pos c3] at H
    have c3b0 : (a0_0 == a1_0) = true := beq_iff_eq.mpr c3
    have c3b1 : (a0_0 != a1_0) = false := bne_eq_false_iff_eq.mpr c3
    clear c3
    replace H := Option.bind_eq_some_iff.mp H
    obtain ⟨t412, A40, H⟩ := H
    replace H : (if t412 = true then (some true) else (some false)) = some r := H
    have A4 := Aside0.mk A40
    clear A40
    by_cases c5 : t412 = true
    · subst c5
      have H1 : (some true) = some r := by rw [if_pos rfl] at H; exact H
      clear H
      have H := H1
      clear H1
      obtain rfl := Option.some.inj H
      go_enter Try.func141, Try.ntmps141
      go_wp2_with (first | ((with_reducible refine gate_dst (N := 2) rfl ?_); refine box_event ?hg (N := 2) ?hd (cs := #[.int .i64 a0_0, .slice A0_1 l0_1.length c0_1]) (t := 185) ?hr ?_; (case hd => rfl); (case hg => rfl); (case hr => first | (go_simp; done) | (go_simp; rfl)); intro gb410 hg w6 hbox hb; have n0_ := Aside0.mk (below_step (by repeat (first | (with_reducible first | exact HB.out | apply below_alloc | apply pw_below_drewN | apply below_drew1) | exact HB.out)) hb); have n1_ := Aside0.mk (hbox); have n2_ := Aside0.mk ((by rw [hg]; exact (below_size (by repeat (first | (with_reducible first | exact HB.out | apply below_alloc | apply pw_below_drewN | apply below_drew1) | exact HB.out))) : w.heap.size ≤ gb410)); have n3_ := Aside0.mk ((by rw [hg]; exact (below_size (by repeat (first | (with_reducible first | exact HB.out | apply below_alloc | apply pw_below_drewN | apply below_drew1) | exact HB.out))) : w.heap.size ≤ gb410)); clear HB; have HB := n0_; have BK410 := n1_; have GW410 := n2_; have GE410 := n3_; clear n0_ n1_ n2_ n3_; clear hb hbox hg) | ((with_reducible refine gate_dst (N := 3) rfl ?_); refine box_event ?hg (N := 3) ?hd (cs := #[.int .i64 a1_0, .slice A1_1 l1_1.length c1_1]) (t := 185) ?hr ?_; (case hd => rfl); (case hg => rfl); (case hr => first | (go_simp; done) | (go_simp; rfl)); intro gb411 hg w7 hbox hb; have n0_ := Aside0.mk (blk_below (g := gb410) (o := .cells #[.int .i64 a0_0, .slice A0_1 l0_1.length c0_1] 185 (0, 0)) (by (with_reducible repeat (first | refine blk_drewN ?_ _ | refine blk_drew ?_ | refine blk_alloc ?_ _)); exact BK410.out) hb); have n1_ := Aside0.mk (below_step (by repeat (first | (with_reducible first | exact HB.out | apply below_alloc | apply pw_below_drewN | apply below_drew1 | refine below_set ?_ GE410.out) | exact HB.out)) hb); have n2_ := Aside0.mk (hbox); have n3_ := Aside0.mk ((by rw [hg]; exact (below_size (by repeat (first | (with_reducible first | exact HB.out | apply below_alloc | apply pw_below_drewN | apply below_drew1 | refine below_set ?_ GE410.out) | exact HB.out))) : w.heap.size ≤ gb411)); have n4_ := Aside0.mk ((by rw [hg]; exact (below_size (by repeat (first | (with_reducible first | exact HB.out | apply below_alloc | apply pw_below_drewN | apply below_drew1 | refine below_set ?_ GE410.out) | exact HB.out))) : w.heap.size ≤ gb411)); have n5_ := Aside0.mk ((by rw [hg]; exact Nat.ne_of_lt (blk_lt (g := gb410) (o := .cells #[.int .i64 a0_0, .slice A0_1 l0_1.length c0_1] 185 (0, 0)) (by (with_reducible repeat (first | refine blk_drewN ?_ _ | refine blk_drew ?_ | refine blk_alloc ?_ _)); exact BK410.out)) : gb410 ≠ gb411)); have n6_ := Aside0.mk ((by rw [hg]; exact Nat.ne_of_gt (blk_lt (g := gb410) (o := .cells #[.int .i64 a0_0, .slice A0_1 l0_1.length c0_1] 185 (0, 0)) (by (with_reducible repeat (first | refine blk_drewN ?_ _ | refine blk_drew ?_ | refine blk_alloc ?_ _)); exact BK410.out)) : gb411 ≠ gb410)); clear BK410; clear HB; have BK410 := n0_; have HB := n1_; have BK411 := n2_; have GW411 := n3_; have GE411 := n4_; have NB410_411 := n5_; have NB411_410 := n6_; clear n0_ n1_ n2_ n3_ n4_ n5_ n6_; clear hb hbox hg; have hnb8 := NB410_411.out; have hnc8 := NB411_410.out; have hcz9_0 : w7.cell? ⟨gb410, 0, none⟩ = some (.int .i64 a0_0) := (blk_cell BK410.out 0).trans rfl; have hcz9_1 : w7.cell? ⟨gb410, 1, none⟩ = some (.slice A0_1 l0_1.length c0_1) := (blk_cell BK410.out 1).trans rfl; have hfz9_0 := blk_frozen BK410.out 0; have hfz9_1 := blk_frozen BK410.out 1; have hcz10_0 : w7.cell? ⟨gb411, 0, none⟩ = some (.int .i64 a1_0) := (blk_cell BK411.out 0).trans rfl; have hcz10_1 : w7.cell? ⟨gb411, 1, none⟩ = some (.slice A1_1 l1_1.length c1_1) := (blk_cell BK411.out 1).trans rfl; have hfz10_0 := blk_frozen BK411.out 0; have hfz10_1 := blk_frozen BK411.out 1) | ((with_reducible refine gate_callee (f := 17) rfl ?_); refine goesL_ (some 14) rfl rfl Try.func17 (by kernel_rfl) rfl #[.slice A0_1 l0_1.length c0_1, .slice A1_1 l1_1.length c1_1] rfl (by (try simp only [List.map_toArray, List.map_cons, List.map_nil]); first | done | rfl | (simp only [List.length_drop, List.length_take]; rfl)) ?_; (with_reducible refine (laws_eqByteS.calls k _ _ l0_1 _ _ l1_1 true _ ?side1 ?side2 ?side3 ?side4 A4.out).mono ?_); (case side1 => repeat (first | exact (Kd.C_below HR0_1.out HB.out) | (with_reducible refine Kd.C_alloc ?_ _) | (with_reducible refine Kd.C_drewN ?_ _) | (with_reducible refine Kd.C_drew ?_))); (case side2 => exact HC0_1.out); (case side3 => repeat (first | exact (Kd.C_below HR1_1.out HB.out) | (with_reducible refine Kd.C_alloc ?_ _) | (with_reducible refine Kd.C_drewN ?_ _) | (with_reducible refine Kd.C_drew ?_))); (case side4 => exact HC1_1.out); rintro e w' ⟨rfl, ⟨nd, rfl⟩⟩; refine ⟨_, rfl, ?_⟩))
      go_ret
      exact ⟨by first | rfl | (simp [errW_none, errW_some] <;> rfl) | (simp [*, errW_none, errW_some] <;> rfl), by repeat (first | (with_reducible first | exact HB.out | apply below_alloc | apply pw_below_drewN | apply below_drew1 | refine below_set ?_ GE410.out | refine below_set ?_ GE411.out) | exact HB.out)⟩
    · replace c5 := Bool.eq_false_iff.mpr c5
      subst c5
      have H1 : (some false) = some r := by rw [if_neg (show ¬ (false = true) by decide)] at H; exact H
      clear H
      have H := H1
      clear H1
      obtain rfl := Option.some.inj H
      go_enter Try.func141, Try.ntmps141
      go_wp2_with (first | ((with_reducible refine gate_dst (N := 2) rfl ?_); refine box_event ?hg (N := 2) ?hd (cs := #[.int .i64 a0_0, .slice A0_1 l0_1.length c0_1]) (t := 185) ?hr ?_; (case hd => rfl); (case hg => rfl); (case hr => first | (go_simp; done) | (go_simp; rfl)); intro gb410 hg w11 hbox hb; have n0_ := Aside0.mk (below_step (by repeat (first | (with_reducible first | exact HB.out | apply below_alloc | apply pw_below_drewN | apply below_drew1) | exact HB.out)) hb); have n1_ := Aside0.mk (hbox); have n2_ := Aside0.mk ((by rw [hg]; exact (below_size (by repeat (first | (with_reducible first | exact HB.out | apply below_alloc | apply pw_below_drewN | apply below_drew1) | exact HB.out))) : w.heap.size ≤ gb410)); have n3_ := Aside0.mk ((by rw [hg]; exact (below_size (by repeat (first | (with_reducible first | exact HB.out | apply below_alloc | apply pw_below_drewN | apply below_drew1) | exact HB.out))) : w.heap.size ≤ gb410)); clear HB; have HB := n0_; have BK410 := n1_; have GW410 := n2_; have GE410 := n3_; clear n0_ n1_ n2_ n3_; clear hb hbox hg) | ((with_reducible refine gate_dst (N := 3) rfl ?_); refine box_event ?hg (N := 3) ?hd (cs := #[.int .i64 a1_0, .slice A1_1 l1_1.length c1_1]) (t := 185) ?hr ?_; (case hd => rfl); (case hg => rfl); (case hr => first | (go_simp; done) | (go_simp; rfl)); intro gb411 hg w12 hbox hb; have n0_ := Aside0.mk (blk_below (g := gb410) (o := .cells #[.int .i64 a0_0, .slice A0_1 l0_1.length c0_1] 185 (0, 0)) (by (with_reducible repeat (first | refine blk_drewN ?_ _ | refine blk_drew ?_ | refine blk_alloc ?_ _)); exact BK410.out) hb); have n1_ := Aside0.mk (below_step (by repeat (first | (with_reducible first | exact HB.out | apply below_alloc | apply pw_below_drewN | apply below_drew1 | refine below_set ?_ GE410.out) | exact HB.out)) hb); have n2_ := Aside0.mk (hbox); have n3_ := Aside0.mk ((by rw [hg]; exact (below_size (by repeat (first | (with_reducible first | exact HB.out | apply below_alloc | apply pw_below_drewN | apply below_drew1 | refine below_set ?_ GE410.out) | exact HB.out))) : w.heap.size ≤ gb411)); have n4_ := Aside0.mk ((by rw [hg]; exact (below_size (by repeat (first | (with_reducible first | exact HB.out | apply below_alloc | apply pw_below_drewN | apply below_drew1 | refine below_set ?_ GE410.out) | exact HB.out))) : w.heap.size ≤ gb411)); have n5_ := Aside0.mk ((by rw [hg]; exact Nat.ne_of_lt (blk_lt (g := gb410) (o := .cells #[.int .i64 a0_0, .slice A0_1 l0_1.length c0_1] 185 (0, 0)) (by (with_reducible repeat (first | refine blk_drewN ?_ _ | refine blk_drew ?_ | refine blk_alloc ?_ _)); exact BK410.out)) : gb410 ≠ gb411)); have n6_ := Aside0.mk ((by rw [hg]; exact Nat.ne_of_gt (blk_lt (g := gb410) (o := .cells #[.int .i64 a0_0, .slice A0_1 l0_1.length c0_1] 185 (0, 0)) (by (with_reducible repeat (first | refine blk_drewN ?_ _ | refine blk_drew ?_ | refine blk_alloc ?_ _)); exact BK410.out)) : gb411 ≠ gb410)); clear BK410; clear HB; have BK410 := n0_; have HB := n1_; have BK411 := n2_; have GW411 := n3_; have GE411 := n4_; have NB410_411 := n5_; have NB411_410 := n6_; clear n0_ n1_ n2_ n3_ n4_ n5_ n6_; clear hb hbox hg; have hnb13 := NB410_411.out; have hnc13 := NB411_410.out; have hcz14_0 : w12.cell? ⟨gb410, 0, none⟩ = some (.int .i64 a0_0) := (blk_cell BK410.out 0).trans rfl; have hcz14_1 : w12.cell? ⟨gb410, 1, none⟩ = some (.slice A0_1 l0_1.length c0_1) := (blk_cell BK410.out 1).trans rfl; have hfz14_0 := blk_frozen BK410.out 0; have hfz14_1 := blk_frozen BK410.out 1; have hcz15_0 : w12.cell? ⟨gb411, 0, none⟩ = some (.int .i64 a1_0) := (blk_cell BK411.out 0).trans rfl; have hcz15_1 : w12.cell? ⟨gb411, 1, none⟩ = some (.slice A1_1 l1_1.length c1_1) := (blk_cell BK411.out 1).trans rfl; have hfz15_0 := blk_frozen BK411.out 0; have hfz15_1 := blk_frozen BK411.out 1) | ((with_reducible refine gate_callee (f := 17) rfl ?_); refine goesL_ (some 14) rfl rfl Try.func17 (by kernel_rfl) rfl #[.slice A0_1 l0_1.length c0_1, .slice A1_1 l1_1.length c1_1] rfl (by (try simp only [List.map_toArray, List.map_cons, List.map_nil]); first | done | rfl | (simp only [List.length_drop, List.length_take]; rfl)) ?_; (with_reducible refine (laws_eqByteS.calls k _ _ l0_1 _ _ l1_1 false _ ?side1 ?side2 ?side3 ?side4 A4.out).mono ?_); (case side1 => repeat (first | exact (Kd.C_below HR0_1.out HB.out) | (with_reducible refine Kd.C_alloc ?_ _) | (with_reducible refine Kd.C_drewN ?_ _) | (with_reducible refine Kd.C_drew ?_))); (case side2 => exact HC0_1.out); (case side3 => repeat (first | exact (Kd.C_below HR1_1.out HB.out) | (with_reducible refine Kd.C_alloc ?_ _) | (with_reducible refine Kd.C_drewN ?_ _) | (with_reducible refine Kd.C_drew ?_))); (case side4 => exact HC1_1.out); rintro e w' ⟨rfl, ⟨nd, rfl⟩⟩; refine ⟨_, rfl, ?_⟩))
      go_ret
      exact ⟨by first | rfl | (simp [errW_none, errW_some] <;> rfl) | (simp [*, errW_none, errW_some] <;> rfl), by repeat (first | (with_reducible first | exact HB.out | apply below_alloc | apply pw_below_drewN | apply below_drew1 | refine below_set ?_ GE410.out | refine below_set ?_ GE411.out) | exact HB.out)⟩
  · rw [if_neg c3] at H
    have c3b0 : (a0_0 == a1_0) = false := beq_eq_false_iff_ne.mpr c3
    have c3b1 : (a0_0 != a1_0) = true := bne_iff_ne.mpr c3
    obtain rfl := Option.some.inj H
    go_enter Try.func141, Try.ntmps141
    go_wp2_with (first | ((with_reducible refine gate_dst (N := 2) rfl ?_); refine box_event ?hg (N := 2) ?hd (cs := #[.int .i64 a0_0, .slice A0_1 l0_1.length c0_1]) (t := 185) ?hr ?_; (case hd => rfl); (case hg => rfl); (case hr => first | (go_simp; done) | (go_simp; rfl)); intro gb410 hg w16 hbox hb; have n0_ := Aside0.mk (below_step (by repeat (first | (with_reducible first | exact HB.out | apply below_alloc | apply pw_below_drewN | apply below_drew1) | exact HB.out)) hb); have n1_ := Aside0.mk (hbox); have n2_ := Aside0.mk ((by rw [hg]; exact (below_size (by repeat (first | (with_reducible first | exact HB.out | apply below_alloc | apply pw_below_drewN | apply below_drew1) | exact HB.out))) : w.heap.size ≤ gb410)); have n3_ := Aside0.mk ((by rw [hg]; exact (below_size (by repeat (first | (with_reducible first | exact HB.out | apply below_alloc | apply pw_below_drewN | apply below_drew1) | exact HB.out))) : w.heap.size ≤ gb410)); clear HB; have HB := n0_; have BK410 := n1_; have GW410 := n2_; have GE410 := n3_; clear n0_ n1_ n2_ n3_; clear hb hbox hg) | ((with_reducible refine gate_dst (N := 3) rfl ?_); refine box_event ?hg (N := 3) ?hd (cs := #[.int .i64 a1_0, .slice A1_1 l1_1.length c1_1]) (t := 185) ?hr ?_; (case hd => rfl); (case hg => rfl); (case hr => first | (go_simp; done) | (go_simp; rfl)); intro gb411 hg w17 hbox hb; have n0_ := Aside0.mk (blk_below (g := gb410) (o := .cells #[.int .i64 a0_0, .slice A0_1 l0_1.length c0_1] 185 (0, 0)) (by (with_reducible repeat (first | refine blk_drewN ?_ _ | refine blk_drew ?_ | refine blk_alloc ?_ _)); exact BK410.out) hb); have n1_ := Aside0.mk (below_step (by repeat (first | (with_reducible first | exact HB.out | apply below_alloc | apply pw_below_drewN | apply below_drew1 | refine below_set ?_ GE410.out) | exact HB.out)) hb); have n2_ := Aside0.mk (hbox); have n3_ := Aside0.mk ((by rw [hg]; exact (below_size (by repeat (first | (with_reducible first | exact HB.out | apply below_alloc | apply pw_below_drewN | apply below_drew1 | refine below_set ?_ GE410.out) | exact HB.out))) : w.heap.size ≤ gb411)); have n4_ := Aside0.mk ((by rw [hg]; exact (below_size (by repeat (first | (with_reducible first | exact HB.out | apply below_alloc | apply pw_below_drewN | apply below_drew1 | refine below_set ?_ GE410.out) | exact HB.out))) : w.heap.size ≤ gb411)); have n5_ := Aside0.mk ((by rw [hg]; exact Nat.ne_of_lt (blk_lt (g := gb410) (o := .cells #[.int .i64 a0_0, .slice A0_1 l0_1.length c0_1] 185 (0, 0)) (by (with_reducible repeat (first | refine blk_drewN ?_ _ | refine blk_drew ?_ | refine blk_alloc ?_ _)); exact BK410.out)) : gb410 ≠ gb411)); have n6_ := Aside0.mk ((by rw [hg]; exact Nat.ne_of_gt (blk_lt (g := gb410) (o := .cells #[.int .i64 a0_0, .slice A0_1 l0_1.length c0_1] 185 (0, 0)) (by (with_reducible repeat (first | refine blk_drewN ?_ _ | refine blk_drew ?_ | refine blk_alloc ?_ _)); exact BK410.out)) : gb411 ≠ gb410)); clear BK410; clear HB; have BK410 := n0_; have HB := n1_; have BK411 := n2_; have GW411 := n3_; have GE411 := n4_; have NB410_411 := n5_; have NB411_410 := n6_; clear n0_ n1_ n2_ n3_ n4_ n5_ n6_; clear hb hbox hg; have hnb18 := NB410_411.out; have hnc18 := NB411_410.out; have hcz19_0 : w17.cell? ⟨gb410, 0, none⟩ = some (.int .i64 a0_0) := (blk_cell BK410.out 0).trans rfl; have hcz19_1 : w17.cell? ⟨gb410, 1, none⟩ = some (.slice A0_1 l0_1.length c0_1) := (blk_cell BK410.out 1).trans rfl; have hfz19_0 := blk_frozen BK410.out 0; have hfz19_1 := blk_frozen BK410.out 1; have hcz20_0 : w17.cell? ⟨gb411, 0, none⟩ = some (.int .i64 a1_0) := (blk_cell BK411.out 0).trans rfl; have hcz20_1 : w17.cell? ⟨gb411, 1, none⟩ = some (.slice A1_1 l1_1.length c1_1) := (blk_cell BK411.out 1).trans rfl; have hfz20_0 := blk_frozen BK411.out 0; have hfz20_1 := blk_frozen BK411.out 1))
    go_ret
    exact ⟨by first | rfl | (simp [errW_none, errW_some] <;> rfl) | (simp [*, errW_none, errW_some] <;> rfl), by repeat (first | (with_reducible first | exact HB.out | apply below_alloc | apply pw_below_drewN | apply below_drew1 | refine below_set ?_ GE410.out | refine below_set ?_ GE411.out) | exact HB.out)⟩

end Go.Proofs.Ytlopmffdebhpfaa.G

/-! ## G92 -/
namespace Go.Proofs.Ytlopmffdebhpfaa.G
open Go.RowKit Go.Proofs.YtlopmffdebhpfaaW.PrintWords Go.Proofs.YtlopmffdebhpfaaW.PrintLast Go.Proofs.YtlopmffdebhpfaaW.PrintMore
attribute [local go_sem] max2_int min2_int max_two min_two max_three min_three max_four min_four
set_option linter.unusedVariables false
set_option linter.unusedSimpArgs false

/-! ### laws_eqPendS: function 92 -/
def laws_eqPendS.l0 : Nat → List (S185) → List (S185) → Int → Option (Bool)
  | 0, _, _, _ => none
  | k + 1, x0, x1, x5 => if x5 < (x0.length : Int) then (if 0 ≤ x5 then (if x5 < (x1.length : Int) then ((laws_eqPend.f k ((rd_T185 x0 x5).f0) ((rd_T185 x0 x5).f1) ((rd_T185 x1 x5).f0) ((rd_T185 x1 x5).f1)).bind fun t415 => (if t415 = true then (laws_eqPendS.l0 k x0 x1 (wrap64 (x5 + 1))) else (some false))) else (none)) else (none)) else (some true)
def laws_eqPendS.f (k : Nat) (l0 : List (S185)) (l1 : List (S185)) : Option (Bool) := if (l0.length : Int) = (l1.length : Int) then (laws_eqPendS.l0 k l0 l1 0) else (some false)
set_option maxRecDepth 100000 in
theorem laws_eqPendS.mono_l : ∀ k, (∀ y0 y1 y2, LeO (laws_eqPendS.l0 k y0 y1 y2) (laws_eqPendS.l0 (k + 1) y0 y1 y2))
  | 0 => fun _ _ _ r h => by simp [laws_eqPendS.l0] at h
  | k + 1 => by
    have ih0 := laws_eqPendS.mono_l k
    · intro y0 y1 y2
      unfold laws_eqPendS.l0
      repeat' first
      | (with_reducible exact ih0 _ _ _)
      | (with_reducible exact laws_eqPend.mono _ _ _ _ _)
      | (with_reducible exact LeO.refl _)
      | (with_reducible exact LeO.none _)
      | (with_reducible refine LeO.ite ?_ ?_)
      | (with_reducible refine LeO.bind ?_ (fun _ => ?_))
      | exact ih0 _ _ _
      | exact laws_eqPend.mono _ _ _ _ _
      | exact LeO.none _
      | refine LeO.ite ?_ ?_
      | refine LeO.bind ?_ (fun _ => ?_)
set_option maxRecDepth 100000 in
theorem laws_eqPendS.mono : ∀ a0 a1 k, LeO (laws_eqPendS.f k a0 a1) (laws_eqPendS.f (k + 1) a0 a1) := by
  intro a0 a1 k
  have ih0 := laws_eqPendS.mono_l k
  unfold laws_eqPendS.f
  repeat' first
      | (with_reducible exact ih0 _ _ _)
      | (with_reducible exact laws_eqPend.mono _ _ _ _ _)
      | (with_reducible exact LeO.refl _)
      | (with_reducible exact LeO.none _)
      | (with_reducible refine LeO.ite ?_ ?_)
      | (with_reducible refine LeO.bind ?_ (fun _ => ?_))
      | exact ih0 _ _ _
      | exact laws_eqPend.mono _ _ _ _ _
      | exact LeO.none _
      | refine LeO.ite ?_ ?_
      | refine LeO.bind ?_ (fun _ => ?_)
def laws_eqPendS.T6 : Bool × List (List Nat × List Nat) := (true, [([], []), ([], []), ([0, 1], [0, 1]), ([2], [2]), ([], []), ([], []), ([4, 5], [4, 5]), ([6], [6]), ([3, 7], [3, 7]), ([8], [8])])
def laws_eqPendS.B6 : List Nat := [0, 0, 3, 7, 0, 0, 48, 112, 255, 511]
theorem laws_eqPendS.tab6 : rtab .any (opsOf Try.f92 6) = laws_eqPendS.T6 := by kernel_rfl
theorem laws_eqPendS.bits6 : waitsOk laws_eqPendS.T6.2 laws_eqPendS.B6 = true := by kernel_rfl
set_option maxHeartbeats 8000000 in
set_option maxRecDepth 100000 in
theorem laws_eqPendS.calls (k : Nat) (A0 : Option Addr) (c0 : Nat) (l0 : List (S185)) (A1 : Option Addr) (c1 : Nat) (l1 : List (S185)) (r : Bool) (w : World) (hr0 : Kd.C k185 w A0 l0.length l0) (hc0 : l0.length ≤ c0) (hr1 : Kd.C k185 w A1 l1.length l1) (hc1 : l1.length ≤ c1) (h : laws_eqPendS.f k l0 l1 = some r) :
    Calls Try.prog 92 #[.slice A0 l0.length c0, .slice A1 l1.length c1] w fun e w' => e = .returned (.bool r) ∧ Below w.heap.size w w' := by
  have hu185 := Try.underlying185
  have HR0 := Aside0.mk hr0
  have HC0 := Aside0.mk hc0
  clear hr0 hc0
  have HR1 := Aside0.mk hr1
  have HC1 := Aside0.mk hc1
  clear hr1 hc1
  have HB := Aside0.mk (Below.refl w.heap.size w)
  have H : (if (l0.length : Int) = (l1.length : Int) then (laws_eqPendS.l0 k l0 l1 0) else (some false)) = some r := h
  clear h
  by_cases c3 : (l0.length : Int) = (l1.length : Int)
  · rw [if_pos c3] at H
    have c3b0 : ((l0.length : Int) == (l1.length : Int)) = true := beq_iff_eq.mpr c3
    have c3b1 : ((l0.length : Int) != (l1.length : Int)) = false := bne_eq_false_iff_eq.mpr c3
    have c3b2 : (l0.length == l1.length) = true := by first | simpa using c3 | (simp at c3 ⊢; omega)
    clear c3
    have H' := Aside0.mk H
    clear H
    go_enter Try.func92, Try.ntmps92
    go_wp2
    go_loopg [5] k (fun kq v5 w' => ∃ (x5_1 : Int), v5 = .int .i64 x5_1 ∧ Aside0 (laws_eqPendS.l0 kq l0 l1 x5_1 = some r) ∧ Aside0 (kq ≤ k) ∧ Aside0 (Below w.heap.size w w'))
    case atStart => exact ⟨(0), (by first | rfl | (simp; done) | (simp [*]; done)), H', ⟨Nat.le_refl _⟩, ⟨by repeat (first | (with_reducible first | exact HB.out | apply below_alloc | apply pw_below_drewN | apply below_drew1) | exact HB.out)⟩⟩
    case round =>
      clear H'
      try clear c1
      try clear p2
      try clear c3
      try clear c3b0
      try clear c3b1
      try clear c3b2
      obtain ⟨x5_1, rfl, HA, HK1, HB⟩ := hrel
      cases gk with
      | zero => exact absurd HA.out (by simp [laws_eqPendS.l0])
      | succ k1 =>
        have H := HA.out
        clear HA
        simp only [laws_eqPendS.l0] at H
        by_cases c4 : x5_1 < (l0.length : Int)
        · rw [if_pos c4] at H
          have c4b0 : decide (x5_1 < (l0.length : Int)) = true := decide_eq_true c4
          clear c4
          by_cases c5 : 0 ≤ x5_1
          · rw [if_pos c5] at H
            have c5b0 : decide (0 ≤ x5_1) = true := decide_eq_true c5
            clear c5
            by_cases c6 : x5_1 < (l1.length : Int)
            · rw [if_pos c6] at H
              have c6b0 : decide (x5_1 < (l1.length : Int)) = true := decide_eq_true c6
              clear c6
              replace H := Option.bind_eq_some_iff.mp H
              obtain ⟨t415, A70, H⟩ := H
              replace H : (if t415 = true then (laws_eqPendS.l0 k1 l0 l1 (wrap64 (x5_1 + 1))) else (some false)) = some r := H
              have A7 := Aside0.mk A70
              clear A70
              by_cases c8 : t415 = true
              · subst c8
                have H1 : (laws_eqPendS.l0 k1 l0 l1 (wrap64 (x5_1 + 1))) = some r := by rw [if_pos rfl] at H; exact H
                clear H
                have H := H1
                clear H1
                have H' := Aside0.mk H
                clear H
                try go_wp2
                have n0_ := Aside0.mk (below_drew1 HB.out)
                clear HB
                have HB := n0_
                clear n0_
                have p413 : 0 ≤ (x5_1 : Int) := of_decide_eq_true (by first | (with_reducible assumption) | assumption)
                have q413 : x5_1 < (l0.length : Int) := of_decide_eq_true (by first | (with_reducible assumption) | assumption)
                obtain ⟨ad413, A413_1, c413_1, e413, hx413_0, hx413_1, hl413_1, hi413_1⟩ := at_T185 HR0.out x5_1 p413 q413
                have hw413_1 := hx413_1
                have hw413_0 := hx413_0
                cases e413
                replace hx413_0 := (HB.out.cell (World.block_lt_of_cell? w _ hx413_0)).trans hx413_0
                replace hx413_1 := (HB.out.cell (World.block_lt_of_cell? w _ hx413_1)).trans hx413_1
                have HR413_1 := Aside0.mk hi413_1
                have HC413_1 := Aside0.mk hl413_1
                clear hi413_1 hl413_1
                replace p413 := eq_true p413
                replace q413 := eq_true q413
                have p414 : 0 ≤ (x5_1 : Int) := of_decide_eq_true (by first | (with_reducible assumption) | assumption)
                have q414 : x5_1 < (l1.length : Int) := of_decide_eq_true (by first | (with_reducible assumption) | assumption)
                obtain ⟨ad414, A414_1, c414_1, e414, hx414_0, hx414_1, hl414_1, hi414_1⟩ := at_T185 HR1.out x5_1 p414 q414
                have hw414_1 := hx414_1
                have hw414_0 := hx414_0
                cases e414
                replace hx414_0 := (HB.out.cell (World.block_lt_of_cell? w _ hx414_0)).trans hx414_0
                replace hx414_1 := (HB.out.cell (World.block_lt_of_cell? w _ hx414_1)).trans hx414_1
                have HR414_1 := Aside0.mk hi414_1
                have HC414_1 := Aside0.mk hl414_1
                clear hi414_1 hl414_1
                replace p414 := eq_true p414
                replace q414 := eq_true q414
                refine start_ (n := 10) (S := fun w' => w'.cell? (ad413.add ((x5_1).toNat * 2)) = some (.int .i64 ((rd_T185 l0 x5_1).f0)) ∧ w'.cell? ⟨(ad413.add ((x5_1).toNat * 2)).block, (ad413.add ((x5_1).toNat * 2)).off + 1, none⟩ = some (.slice A413_1 ((rd_T185 l0 x5_1).f1).length c413_1) ∧ w'.cell? (ad414.add ((x5_1).toNat * 2)) = some (.int .i64 ((rd_T185 l1 x5_1).f0)) ∧ w'.cell? ⟨(ad414.add ((x5_1).toNat * 2)).block, (ad414.add ((x5_1).toNat * 2)).off + 1, none⟩ = some (.slice A414_1 ((rd_T185 l1 x5_1).f1).length c414_1)) (ds := []) #[false, false, false, false, false, false, false, false, false, false] (by kernel_rfl) rfl rfl ⟨((HB.out.cell (World.block_lt_of_cell? w _ hw413_0)).trans hw413_0), ((HB.out.cell (World.block_lt_of_cell? w _ hw413_1)).trans hw413_1), ((HB.out.cell (World.block_lt_of_cell? w _ hw414_0)).trans hw414_0), ((HB.out.cell (World.block_lt_of_cell? w _ hw414_1)).trans hw414_1)⟩ (fun hHeld => ?_); refine with_tabW laws_eqPendS.tab6 laws_eqPendS.bits6 (fun HT_ HW_ => ?_)
                generalize wr.drew = w9 at HB HR413_1 HR414_1 hx413_0 hx413_1 hx414_0 hx414_1 hHeld ⊢
                refine pure_ (i := 0) (N := some 17) (v := ?_) (a' := ?_) #[true, false, false, false, false, false, false, false, false, false] rfl rfl (any_of HT_.out (by kernel_rfl)) (fun _ _ _ h => h) (Or.inl ⟨by rfl, ?_⟩) ?_ ?_
                rotate_left
                · intro w'
                  go_simp
                  with_reducible rfl
                rotate_left
                · simp only [Act.put, List.setIfInBounds_toArray, List.set_cons_zero, List.set_cons_succ, i64_w, i32_w]
                  rfl
                refine pure_ (i := 1) (N := some 18) (v := ?_) (a' := ?_) #[true, true, false, false, false, false, false, false, false, false] rfl rfl (any_of HT_.out (by kernel_rfl)) (fun _ _ _ h => h) (Or.inl ⟨by rfl, ?_⟩) ?_ ?_
                rotate_left
                · intro w'
                  go_simp
                  with_reducible rfl
                rotate_left
                · simp only [Act.put, List.setIfInBounds_toArray, List.set_cons_zero, List.set_cons_succ, i64_w, i32_w]
                  rfl
                refine pure_ (i := 2) (N := some 19) (v := ?_) (a' := ?_) #[true, true, true, false, false, false, false, false, false, false] rfl rfl (any_of HT_.out (by kernel_rfl)) (fun _ _ _ h => h) (Or.inl ⟨by rfl, ?_⟩) ?_ ?_
                rotate_left
                · intro w'
                  go_simp
                  with_reducible rfl
                rotate_left
                · simp only [Act.put, List.setIfInBounds_toArray, List.set_cons_zero, List.set_cons_succ, i64_w, i32_w]
                  rfl
                refine pure_ (i := 4) (N := some 21) (v := ?_) (a' := ?_) #[true, true, true, false, true, false, false, false, false, false] rfl rfl (any_of HT_.out (by kernel_rfl)) (fun _ _ _ h => h) (Or.inl ⟨by rfl, ?_⟩) ?_ ?_
                rotate_left
                · intro w'
                  go_simp
                  with_reducible rfl
                rotate_left
                · simp only [Act.put, List.setIfInBounds_toArray, List.set_cons_zero, List.set_cons_succ, i64_w, i32_w]
                  rfl
                refine pure_ (i := 5) (N := some 22) (v := ?_) (a' := ?_) #[true, true, true, false, true, true, false, false, false, false] rfl rfl (any_of HT_.out (by kernel_rfl)) (fun _ _ _ h => h) (Or.inl ⟨by rfl, ?_⟩) ?_ ?_
                rotate_left
                · intro w'
                  go_simp
                  with_reducible rfl
                rotate_left
                · simp only [Act.put, List.setIfInBounds_toArray, List.set_cons_zero, List.set_cons_succ, i64_w, i32_w]
                  rfl
                refine pure_ (i := 6) (N := some 23) (v := ?_) (a' := ?_) #[true, true, true, false, true, true, true, false, false, false] rfl rfl (any_of HT_.out (by kernel_rfl)) (fun _ _ _ h => h) (Or.inl ⟨by rfl, ?_⟩) ?_ ?_
                rotate_left
                · intro w'
                  go_simp
                  with_reducible rfl
                rotate_left
                · simp only [Act.put, List.setIfInBounds_toArray, List.set_cons_zero, List.set_cons_succ, i64_w, i32_w]
                  rfl
                refine take_ (i := 3) (N := some 20) (v := ?_) (a' := ?_) #[true, true, true, true, true, true, true, false, false, false] rfl rfl (take_ofW HT_.out HW_.out (by kernel_rfl)) (fun _ _ _ h => h) (Or.inl ⟨by rfl, ?_⟩) hHeld ?_ ?_
                rotate_left
                · rintro w' ⟨s0, s1, s2, s3⟩
                  go_simp
                  with_reducible rfl
                rotate_left
                · simp only [Act.put, List.setIfInBounds_toArray, List.set_cons_zero, List.set_cons_succ, i64_w, i32_w]
                  rfl
                refine take_ (i := 7) (N := some 24) (v := ?_) (a' := ?_) #[true, true, true, true, true, true, true, true, false, false] rfl rfl (take_ofW HT_.out HW_.out (by kernel_rfl)) (fun _ _ _ h => h) (Or.inl ⟨by rfl, ?_⟩) hHeld ?_ ?_
                rotate_left
                · rintro w' ⟨s0, s1, s2, s3⟩
                  go_simp
                  with_reducible rfl
                rotate_left
                · simp only [Act.put, List.setIfInBounds_toArray, List.set_cons_zero, List.set_cons_succ, i64_w, i32_w]
                  rfl
                refine one_ (i := 8) (N := some 25) #[true, true, true, true, true, true, true, true, true, false] rfl rfl (one_of HT_.out (by kernel_rfl)) (by decide) (fun K hK => ?_)
                refine goes_ Try.func141 (by kernel_rfl) rfl #[.agg #[.int .i64 ((rd_T185 l0 x5_1).f0), .slice A413_1 ((rd_T185 l0 x5_1).f1).length c413_1], .agg #[.int .i64 ((rd_T185 l1 x5_1).f0), .slice A414_1 ((rd_T185 l1 x5_1).f1).length c414_1]] (by rfl) rfl rfl (by (try simp only [List.map_toArray, List.map_cons, List.map_nil]); first | done | rfl | (simp only [List.length_drop, List.length_take]; rfl)) ?_
                with_reducible refine (laws_eqPend.calls k1 ((rd_T185 l0 x5_1).f0) _ _ ((rd_T185 l0 x5_1).f1) ((rd_T185 l1 x5_1).f0) _ _ ((rd_T185 l1 x5_1).f1) true _ ?side1 ?side2 ?side3 ?side4 A7.out).mono ?_
                (case side1 => repeat (first | exact (Kd.C_below HR413_1.out HB.out) | (with_reducible refine Kd.C_alloc ?_ _) | (with_reducible refine Kd.C_drewN ?_ _) | (with_reducible refine Kd.C_drew ?_)))
                (case side2 => exact HC413_1.out)
                (case side3 => repeat (first | exact (Kd.C_below HR414_1.out HB.out) | (with_reducible refine Kd.C_alloc ?_ _) | (with_reducible refine Kd.C_drewN ?_ _) | (with_reducible refine Kd.C_drew ?_)))
                (case side4 => exact HC414_1.out)
                rintro e w10 ⟨rfl, hb⟩
                refine ⟨_, rfl, ?_⟩
                have n0_ := Aside0.mk (below_step (by repeat (first | (with_reducible first | exact HB.out | apply below_alloc | apply pw_below_drewN | apply below_drew1) | exact HB.out)) hb)
                clear HB
                have HB := n0_
                clear n0_
                (try clear hb)
                (try clear hb2)
                (try clear hk)
                (try clear hi)
                refine hK.out _ _ ⟨((HB.out.cell (World.block_lt_of_cell? w _ hw413_0)).trans hw413_0), ((HB.out.cell (World.block_lt_of_cell? w _ hw413_1)).trans hw413_1), ((HB.out.cell (World.block_lt_of_cell? w _ hw414_0)).trans hw414_0), ((HB.out.cell (World.block_lt_of_cell? w _ hw414_1)).trans hw414_1)⟩ (fun hHeld => ?_)
                clear hK K
                refine norm_ (a' := ?_) ?_ ?_
                rotate_left
                · show Act.put _ (some 25) _ = _
                  simp only [Act.put, List.setIfInBounds_toArray, List.set_cons_zero, List.set_cons_succ, i64_w, i32_w]
                  rfl
                refine pure_ (i := 9) (N := some 26) (v := ?_) (a' := ?_) #[true, true, true, true, true, true, true, true, true, true] rfl rfl (any_of HT_.out (by kernel_rfl)) (fun _ _ _ h => h) (Or.inl ⟨by rfl, ?_⟩) ?_ ?_
                rotate_left
                · intro w'
                  go_simp
                  with_reducible rfl
                rotate_left
                · simp only [Act.put, List.setIfInBounds_toArray, List.set_cons_zero, List.set_cons_succ, i64_w, i32_w]
                  rfl
                refine done_ (done_of HT_.out (by kernel_rfl)) ?_
                try go_wp2
                go_roundg k1
                case measure => have := HK1.out; omega
                case rel => exact ⟨(wrap64 (x5_1 + 1)), (by first | rfl | (simp; done) | (simp [*]; done)), H', ⟨by have := HK1.out; omega⟩, ⟨by repeat (first | (with_reducible first | exact HB.out | apply below_alloc | apply pw_below_drewN | apply below_drew1) | exact HB.out)⟩⟩
              · replace c8 := Bool.eq_false_iff.mpr c8
                subst c8
                have H1 : (some false) = some r := by rw [if_neg (show ¬ (false = true) by decide)] at H; exact H
                clear H
                have H := H1
                clear H1
                obtain rfl := Option.some.inj H
                try go_wp2
                have n0_ := Aside0.mk (below_drew1 HB.out)
                clear HB
                have HB := n0_
                clear n0_
                have p413 : 0 ≤ (x5_1 : Int) := of_decide_eq_true (by first | (with_reducible assumption) | assumption)
                have q413 : x5_1 < (l0.length : Int) := of_decide_eq_true (by first | (with_reducible assumption) | assumption)
                obtain ⟨ad413, A413_1, c413_1, e413, hx413_0, hx413_1, hl413_1, hi413_1⟩ := at_T185 HR0.out x5_1 p413 q413
                have hw413_1 := hx413_1
                have hw413_0 := hx413_0
                cases e413
                replace hx413_0 := (HB.out.cell (World.block_lt_of_cell? w _ hx413_0)).trans hx413_0
                replace hx413_1 := (HB.out.cell (World.block_lt_of_cell? w _ hx413_1)).trans hx413_1
                have HR413_1 := Aside0.mk hi413_1
                have HC413_1 := Aside0.mk hl413_1
                clear hi413_1 hl413_1
                replace p413 := eq_true p413
                replace q413 := eq_true q413
                have p414 : 0 ≤ (x5_1 : Int) := of_decide_eq_true (by first | (with_reducible assumption) | assumption)
                have q414 : x5_1 < (l1.length : Int) := of_decide_eq_true (by first | (with_reducible assumption) | assumption)
                obtain ⟨ad414, A414_1, c414_1, e414, hx414_0, hx414_1, hl414_1, hi414_1⟩ := at_T185 HR1.out x5_1 p414 q414
                have hw414_1 := hx414_1
                have hw414_0 := hx414_0
                cases e414
                replace hx414_0 := (HB.out.cell (World.block_lt_of_cell? w _ hx414_0)).trans hx414_0
                replace hx414_1 := (HB.out.cell (World.block_lt_of_cell? w _ hx414_1)).trans hx414_1
                have HR414_1 := Aside0.mk hi414_1
                have HC414_1 := Aside0.mk hl414_1
                clear hi414_1 hl414_1
                replace p414 := eq_true p414
                replace q414 := eq_true q414
                refine start_ (n := 10) (S := fun w' => w'.cell? (ad413.add ((x5_1).toNat * 2)) = some (.int .i64 ((rd_T185 l0 x5_1).f0)) ∧ w'.cell? ⟨(ad413.add ((x5_1).toNat * 2)).block, (ad413.add ((x5_1).toNat * 2)).off + 1, none⟩ = some (.slice A413_1 ((rd_T185 l0 x5_1).f1).length c413_1) ∧ w'.cell? (ad414.add ((x5_1).toNat * 2)) = some (.int .i64 ((rd_T185 l1 x5_1).f0)) ∧ w'.cell? ⟨(ad414.add ((x5_1).toNat * 2)).block, (ad414.add ((x5_1).toNat * 2)).off + 1, none⟩ = some (.slice A414_1 ((rd_T185 l1 x5_1).f1).length c414_1)) (ds := []) #[false, false, false, false, false, false, false, false, false, false] (by kernel_rfl) rfl rfl ⟨((HB.out.cell (World.block_lt_of_cell? w _ hw413_0)).trans hw413_0), ((HB.out.cell (World.block_lt_of_cell? w _ hw413_1)).trans hw413_1), ((HB.out.cell (World.block_lt_of_cell? w _ hw414_0)).trans hw414_0), ((HB.out.cell (World.block_lt_of_cell? w _ hw414_1)).trans hw414_1)⟩ (fun hHeld => ?_); refine with_tabW laws_eqPendS.tab6 laws_eqPendS.bits6 (fun HT_ HW_ => ?_)
                generalize wr.drew = w11 at HB HR413_1 HR414_1 hx413_0 hx413_1 hx414_0 hx414_1 hHeld ⊢
                refine pure_ (i := 0) (N := some 17) (v := ?_) (a' := ?_) #[true, false, false, false, false, false, false, false, false, false] rfl rfl (any_of HT_.out (by kernel_rfl)) (fun _ _ _ h => h) (Or.inl ⟨by rfl, ?_⟩) ?_ ?_
                rotate_left
                · intro w'
                  go_simp
                  with_reducible rfl
                rotate_left
                · simp only [Act.put, List.setIfInBounds_toArray, List.set_cons_zero, List.set_cons_succ, i64_w, i32_w]
                  rfl
                refine pure_ (i := 1) (N := some 18) (v := ?_) (a' := ?_) #[true, true, false, false, false, false, false, false, false, false] rfl rfl (any_of HT_.out (by kernel_rfl)) (fun _ _ _ h => h) (Or.inl ⟨by rfl, ?_⟩) ?_ ?_
                rotate_left
                · intro w'
                  go_simp
                  with_reducible rfl
                rotate_left
                · simp only [Act.put, List.setIfInBounds_toArray, List.set_cons_zero, List.set_cons_succ, i64_w, i32_w]
                  rfl
                refine pure_ (i := 2) (N := some 19) (v := ?_) (a' := ?_) #[true, true, true, false, false, false, false, false, false, false] rfl rfl (any_of HT_.out (by kernel_rfl)) (fun _ _ _ h => h) (Or.inl ⟨by rfl, ?_⟩) ?_ ?_
                rotate_left
                · intro w'
                  go_simp
                  with_reducible rfl
                rotate_left
                · simp only [Act.put, List.setIfInBounds_toArray, List.set_cons_zero, List.set_cons_succ, i64_w, i32_w]
                  rfl
                refine pure_ (i := 4) (N := some 21) (v := ?_) (a' := ?_) #[true, true, true, false, true, false, false, false, false, false] rfl rfl (any_of HT_.out (by kernel_rfl)) (fun _ _ _ h => h) (Or.inl ⟨by rfl, ?_⟩) ?_ ?_
                rotate_left
                · intro w'
                  go_simp
                  with_reducible rfl
                rotate_left
                · simp only [Act.put, List.setIfInBounds_toArray, List.set_cons_zero, List.set_cons_succ, i64_w, i32_w]
                  rfl
                refine pure_ (i := 5) (N := some 22) (v := ?_) (a' := ?_) #[true, true, true, false, true, true, false, false, false, false] rfl rfl (any_of HT_.out (by kernel_rfl)) (fun _ _ _ h => h) (Or.inl ⟨by rfl, ?_⟩) ?_ ?_
                rotate_left
                · intro w'
                  go_simp
                  with_reducible rfl
                rotate_left
                · simp only [Act.put, List.setIfInBounds_toArray, List.set_cons_zero, List.set_cons_succ, i64_w, i32_w]
                  rfl
                refine pure_ (i := 6) (N := some 23) (v := ?_) (a' := ?_) #[true, true, true, false, true, true, true, false, false, false] rfl rfl (any_of HT_.out (by kernel_rfl)) (fun _ _ _ h => h) (Or.inl ⟨by rfl, ?_⟩) ?_ ?_
                rotate_left
                · intro w'
                  go_simp
                  with_reducible rfl
                rotate_left
                · simp only [Act.put, List.setIfInBounds_toArray, List.set_cons_zero, List.set_cons_succ, i64_w, i32_w]
                  rfl
                refine take_ (i := 3) (N := some 20) (v := ?_) (a' := ?_) #[true, true, true, true, true, true, true, false, false, false] rfl rfl (take_ofW HT_.out HW_.out (by kernel_rfl)) (fun _ _ _ h => h) (Or.inl ⟨by rfl, ?_⟩) hHeld ?_ ?_
                rotate_left
                · rintro w' ⟨s0, s1, s2, s3⟩
                  go_simp
                  with_reducible rfl
                rotate_left
                · simp only [Act.put, List.setIfInBounds_toArray, List.set_cons_zero, List.set_cons_succ, i64_w, i32_w]
                  rfl
                refine take_ (i := 7) (N := some 24) (v := ?_) (a' := ?_) #[true, true, true, true, true, true, true, true, false, false] rfl rfl (take_ofW HT_.out HW_.out (by kernel_rfl)) (fun _ _ _ h => h) (Or.inl ⟨by rfl, ?_⟩) hHeld ?_ ?_
                rotate_left
                · rintro w' ⟨s0, s1, s2, s3⟩
                  go_simp
                  with_reducible rfl
                rotate_left
                · simp only [Act.put, List.setIfInBounds_toArray, List.set_cons_zero, List.set_cons_succ, i64_w, i32_w]
                  rfl
                refine one_ (i := 8) (N := some 25) #[true, true, true, true, true, true, true, true, true, false] rfl rfl (one_of HT_.out (by kernel_rfl)) (by decide) (fun K hK => ?_)
                refine goes_ Try.func141 (by kernel_rfl) rfl #[.agg #[.int .i64 ((rd_T185 l0 x5_1).f0), .slice A413_1 ((rd_T185 l0 x5_1).f1).length c413_1], .agg #[.int .i64 ((rd_T185 l1 x5_1).f0), .slice A414_1 ((rd_T185 l1 x5_1).f1).length c414_1]] (by rfl) rfl rfl (by (try simp only [List.map_toArray, List.map_cons, List.map_nil]); first | done | rfl | (simp only [List.length_drop, List.length_take]; rfl)) ?_
                with_reducible refine (laws_eqPend.calls k1 ((rd_T185 l0 x5_1).f0) _ _ ((rd_T185 l0 x5_1).f1) ((rd_T185 l1 x5_1).f0) _ _ ((rd_T185 l1 x5_1).f1) false _ ?side1 ?side2 ?side3 ?side4 A7.out).mono ?_
                (case side1 => repeat (first | exact (Kd.C_below HR413_1.out HB.out) | (with_reducible refine Kd.C_alloc ?_ _) | (with_reducible refine Kd.C_drewN ?_ _) | (with_reducible refine Kd.C_drew ?_)))
                (case side2 => exact HC413_1.out)
                (case side3 => repeat (first | exact (Kd.C_below HR414_1.out HB.out) | (with_reducible refine Kd.C_alloc ?_ _) | (with_reducible refine Kd.C_drewN ?_ _) | (with_reducible refine Kd.C_drew ?_)))
                (case side4 => exact HC414_1.out)
                rintro e w12 ⟨rfl, hb⟩
                refine ⟨_, rfl, ?_⟩
                have n0_ := Aside0.mk (below_step (by repeat (first | (with_reducible first | exact HB.out | apply below_alloc | apply pw_below_drewN | apply below_drew1) | exact HB.out)) hb)
                clear HB
                have HB := n0_
                clear n0_
                (try clear hb)
                (try clear hb2)
                (try clear hk)
                (try clear hi)
                refine hK.out _ _ ⟨((HB.out.cell (World.block_lt_of_cell? w _ hw413_0)).trans hw413_0), ((HB.out.cell (World.block_lt_of_cell? w _ hw413_1)).trans hw413_1), ((HB.out.cell (World.block_lt_of_cell? w _ hw414_0)).trans hw414_0), ((HB.out.cell (World.block_lt_of_cell? w _ hw414_1)).trans hw414_1)⟩ (fun hHeld => ?_)
                clear hK K
                refine norm_ (a' := ?_) ?_ ?_
                rotate_left
                · show Act.put _ (some 25) _ = _
                  simp only [Act.put, List.setIfInBounds_toArray, List.set_cons_zero, List.set_cons_succ, i64_w, i32_w]
                  rfl
                refine pure_ (i := 9) (N := some 26) (v := ?_) (a' := ?_) #[true, true, true, true, true, true, true, true, true, true] rfl rfl (any_of HT_.out (by kernel_rfl)) (fun _ _ _ h => h) (Or.inl ⟨by rfl, ?_⟩) ?_ ?_
                rotate_left
                · intro w'
                  go_simp
                  with_reducible rfl
                rotate_left
                · simp only [Act.put, List.setIfInBounds_toArray, List.set_cons_zero, List.set_cons_succ, i64_w, i32_w]
                  rfl
                refine done_ (done_of HT_.out (by kernel_rfl)) ?_
                try go_wp2
                go_ret
                exact ⟨by first | rfl | (simp [errW_none, errW_some] <;> rfl) | (simp [*, errW_none, errW_some] <;> rfl), by repeat (first | (with_reducible first | exact HB.out | apply below_alloc | apply pw_below_drewN | apply below_drew1) | exact HB.out)⟩
            · rw [if_neg c6] at H
              exact absurd H (by simp)
          · rw [if_neg c5] at H
            exact absurd H (by simp)
        · rw [if_neg c4] at H
          have c4b0 : decide (x5_1 < (l0.length : Int)) = false := decide_eq_false c4
          clear c4
          obtain rfl := Option.some.inj H
          go_wp2
          go_ret
          exact ⟨by first | rfl | (simp [errW_none, errW_some] <;> rfl) | (simp [*, errW_none, errW_some] <;> rfl), by repeat (first | (with_reducible first | exact HB.out | apply below_alloc | apply pw_below_drewN | apply below_drew1) | exact HB.out)⟩
  · rw [if_neg c3] at H
    have c3b0 : ((l0.length : Int) == (l1.length : Int)) = false := beq_eq_false_iff_ne.mpr c3
    have c3b1 : ((l0.length : Int) != (l1.length : Int)) = true := bne_iff_ne.mpr c3
    have c3b2 : (l0.length == l1.length) = false := by first | simpa using c3 | (simp at c3 ⊢; omega)
    obtain rfl := Option.some.inj H
    go_enter Try.func92, Try.ntmps92
    go_wp2
    go_ret
    exact ⟨by first | rfl | (simp [errW_none, errW_some] <;> rfl) | (simp [*, errW_none, errW_some] <;> rfl), by repeat (first | (with_reducible first | exact HB.out | apply below_alloc | apply pw_below_drewN | apply below_drew1) | exact HB.out)⟩

end Go.Proofs.Ytlopmffdebhpfaa.G

/-! ## G28 -/
namespace Go.Proofs.Ytlopmffdebhpfaa.G
open Go.RowKit Go.Proofs.YtlopmffdebhpfaaW.PrintWords Go.Proofs.YtlopmffdebhpfaaW.PrintLast Go.Proofs.YtlopmffdebhpfaaW.PrintMore
attribute [local go_sem] max2_int min2_int max_two min_two max_three min_three max_four min_four
set_option linter.unusedVariables false
set_option linter.unusedSimpArgs false

/-! ### laws_eqDisk: function 28 -/
def laws_eqDisk.f (k : Nat) (l0_0 : List (List Int)) (l0_1 : List (S185)) (l1_0 : List (List Int)) (l1_1 : List (S185)) : Option (Bool) := (laws_eqByteSS.f k l0_0 l1_0).bind fun t418 => (if t418 = true then ((laws_eqPendS.f k l0_1 l1_1).bind fun t419 => (if t419 = true then (some true) else (some false))) else (some false))
set_option maxRecDepth 100000 in
theorem laws_eqDisk.mono : ∀ a0 a1 a2 a3 k, LeO (laws_eqDisk.f k a0 a1 a2 a3) (laws_eqDisk.f (k + 1) a0 a1 a2 a3) := by
  intro a0 a1 a2 a3 k
  unfold laws_eqDisk.f
  repeat' first
      | (with_reducible exact laws_eqByteSS.mono _ _ _)
      | (with_reducible exact laws_eqPendS.mono _ _ _)
      | (with_reducible exact LeO.refl _)
      | (with_reducible exact LeO.none _)
      | (with_reducible refine LeO.ite ?_ ?_)
      | (with_reducible refine LeO.bind ?_ (fun _ => ?_))
      | exact laws_eqByteSS.mono _ _ _
      | exact laws_eqPendS.mono _ _ _
      | exact LeO.none _
      | refine LeO.ite ?_ ?_
      | refine LeO.bind ?_ (fun _ => ?_)
set_option maxHeartbeats 8000000 in
set_option maxRecDepth 100000 in
theorem laws_eqDisk.calls (k : Nat) (A0_0 : Option Addr) (c0_0 : Nat) (l0_0 : List (List Int)) (A0_1 : Option Addr) (c0_1 : Nat) (l0_1 : List (S185)) (A1_0 : Option Addr) (c1_0 : Nat) (l1_0 : List (List Int)) (A1_1 : Option Addr) (c1_1 : Nat) (l1_1 : List (S185)) (r : Bool) (w : World) (hr0_0 : Kd.C (Kd.slice 5 (Kd.int .u8)) w A0_0 l0_0.length l0_0) (hc0_0 : l0_0.length ≤ c0_0) (hr0_1 : Kd.C k185 w A0_1 l0_1.length l0_1) (hc0_1 : l0_1.length ≤ c0_1) (hr1_0 : Kd.C (Kd.slice 5 (Kd.int .u8)) w A1_0 l1_0.length l1_0) (hc1_0 : l1_0.length ≤ c1_0) (hr1_1 : Kd.C k185 w A1_1 l1_1.length l1_1) (hc1_1 : l1_1.length ≤ c1_1) (h : laws_eqDisk.f k l0_0 l0_1 l1_0 l1_1 = some r) :
    Calls Try.prog 28 #[.agg #[.slice A0_0 l0_0.length c0_0, .slice A0_1 l0_1.length c0_1], .agg #[.slice A1_0 l1_0.length c1_0, .slice A1_1 l1_1.length c1_1]] w fun e w' => e = .returned (.bool r) ∧ Below w.heap.size w w' := by
  have hu44 := Try.underlying44
  have HR0_0 := Aside0.mk hr0_0
  have HC0_0 := Aside0.mk hc0_0
  clear hr0_0 hc0_0
  have HR0_1 := Aside0.mk hr0_1
  have HC0_1 := Aside0.mk hc0_1
  clear hr0_1 hc0_1
  have HR1_0 := Aside0.mk hr1_0
  have HC1_0 := Aside0.mk hc1_0
  clear hr1_0 hc1_0
  have HR1_1 := Aside0.mk hr1_1
  have HC1_1 := Aside0.mk hc1_1
  clear hr1_1 hc1_1
  have HB := Aside0.mk (Below.refl w.heap.size w)
  have H : ((laws_eqByteSS.f k l0_0 l1_0).bind fun t418 => (if t418 = true then ((laws_eqPendS.f k l0_1 l1_1).bind fun t419 => (if t419 = true then (some true) else (some false))) else (some false))) = some r := h
  clear h
  replace H := Option.bind_eq_some_iff.mp H
  obtain ⟨t418, A30, H⟩ := H
  replace H : (if t418 = true then ((laws_eqPendS.f k l0_1 l1_1).bind fun t419 => (if t419 = true then (some true) else (some false))) else (some false)) = some r := H
  have A3 := Aside0.mk A30
  clear A30
  by_cases c4 : t418 = true
  · subst c4
    have H1 : ((laws_eqPendS.f k l0_1 l1_1).bind fun t419 => (if t419 = true then (some true) else (some false))) = some r := by rw [if_pos rfl] at H; exact H
    clear H
    have H := H1
    clear H1
    replace H := Option.bind_eq_some_iff.mp H
    obtain ⟨t419, A50, H⟩ := H
    replace H : (if t419 = true then (some true) else (some false)) = some r := H
    have A5 := Aside0.mk A50
    clear A50
    by_cases c6 : t419 = true
    · subst c6
      have H1 : (some true) = some r := by rw [if_pos rfl] at H; exact H
      clear H
      have H := H1
      clear H1
      obtain rfl := Option.some.inj H
      go_enter Try.func28, Try.ntmps28
      go_wp2_with (first | ((with_reducible refine gate_dst (N := 2) rfl ?_); refine box_event ?hg (N := 2) ?hd (cs := #[.slice A0_0 l0_0.length c0_0, .slice A0_1 l0_1.length c0_1]) (t := 44) ?hr ?_; (case hd => rfl); (case hg => rfl); (case hr => first | (go_simp; done) | (go_simp; rfl)); intro gb416 hg w7 hbox hb; have n0_ := Aside0.mk (below_step (by repeat (first | (with_reducible first | exact HB.out | apply below_alloc | apply pw_below_drewN | apply below_drew1) | exact HB.out)) hb); have n1_ := Aside0.mk (hbox); have n2_ := Aside0.mk ((by rw [hg]; exact (below_size (by repeat (first | (with_reducible first | exact HB.out | apply below_alloc | apply pw_below_drewN | apply below_drew1) | exact HB.out))) : w.heap.size ≤ gb416)); have n3_ := Aside0.mk ((by rw [hg]; exact (below_size (by repeat (first | (with_reducible first | exact HB.out | apply below_alloc | apply pw_below_drewN | apply below_drew1) | exact HB.out))) : w.heap.size ≤ gb416)); clear HB; have HB := n0_; have BK416 := n1_; have GW416 := n2_; have GE416 := n3_; clear n0_ n1_ n2_ n3_; clear hb hbox hg) | ((with_reducible refine gate_dst (N := 3) rfl ?_); refine box_event ?hg (N := 3) ?hd (cs := #[.slice A1_0 l1_0.length c1_0, .slice A1_1 l1_1.length c1_1]) (t := 44) ?hr ?_; (case hd => rfl); (case hg => rfl); (case hr => first | (go_simp; done) | (go_simp; rfl)); intro gb417 hg w8 hbox hb; have n0_ := Aside0.mk (blk_below (g := gb416) (o := .cells #[.slice A0_0 l0_0.length c0_0, .slice A0_1 l0_1.length c0_1] 44 (0, 0)) (by (with_reducible repeat (first | refine blk_drewN ?_ _ | refine blk_drew ?_ | refine blk_alloc ?_ _)); exact BK416.out) hb); have n1_ := Aside0.mk (below_step (by repeat (first | (with_reducible first | exact HB.out | apply below_alloc | apply pw_below_drewN | apply below_drew1 | refine below_set ?_ GE416.out) | exact HB.out)) hb); have n2_ := Aside0.mk (hbox); have n3_ := Aside0.mk ((by rw [hg]; exact (below_size (by repeat (first | (with_reducible first | exact HB.out | apply below_alloc | apply pw_below_drewN | apply below_drew1 | refine below_set ?_ GE416.out) | exact HB.out))) : w.heap.size ≤ gb417)); have n4_ := Aside0.mk ((by rw [hg]; exact (below_size (by repeat (first | (with_reducible first | exact HB.out | apply below_alloc | apply pw_below_drewN | apply below_drew1 | refine below_set ?_ GE416.out) | exact HB.out))) : w.heap.size ≤ gb417)); have n5_ := Aside0.mk ((by rw [hg]; exact Nat.ne_of_lt (blk_lt (g := gb416) (o := .cells #[.slice A0_0 l0_0.length c0_0, .slice A0_1 l0_1.length c0_1] 44 (0, 0)) (by (with_reducible repeat (first | refine blk_drewN ?_ _ | refine blk_drew ?_ | refine blk_alloc ?_ _)); exact BK416.out)) : gb416 ≠ gb417)); have n6_ := Aside0.mk ((by rw [hg]; exact Nat.ne_of_gt (blk_lt (g := gb416) (o := .cells #[.slice A0_0 l0_0.length c0_0, .slice A0_1 l0_1.length c0_1] 44 (0, 0)) (by (with_reducible repeat (first | refine blk_drewN ?_ _ | refine blk_drew ?_ | refine blk_alloc ?_ _)); exact BK416.out)) : gb417 ≠ gb416)); clear BK416; clear HB; have BK416 := n0_; have HB := n1_; have BK417 := n2_; have GW417 := n3_; have GE417 := n4_; have NB416_417 := n5_; have NB417_416 := n6_; clear n0_ n1_ n2_ n3_ n4_ n5_ n6_; clear hb hbox hg; have hnb9 := NB416_417.out; have hnc9 := NB417_416.out; have hcz10_0 : w8.cell? ⟨gb416, 0, none⟩ = some (.slice A0_0 l0_0.length c0_0) := (blk_cell BK416.out 0).trans rfl; have hcz10_1 : w8.cell? ⟨gb416, 1, none⟩ = some (.slice A0_1 l0_1.length c0_1) := (blk_cell BK416.out 1).trans rfl; have hfz10_0 := blk_frozen BK416.out 0; have hfz10_1 := blk_frozen BK416.out 1; have hcz11_0 : w8.cell? ⟨gb417, 0, none⟩ = some (.slice A1_0 l1_0.length c1_0) := (blk_cell BK417.out 0).trans rfl; have hcz11_1 : w8.cell? ⟨gb417, 1, none⟩ = some (.slice A1_1 l1_1.length c1_1) := (blk_cell BK417.out 1).trans rfl; have hfz11_0 := blk_frozen BK417.out 0; have hfz11_1 := blk_frozen BK417.out 1) | ((with_reducible refine gate_callee (f := 91) rfl ?_); refine goesL_ (some 9) rfl rfl Try.func91 (by kernel_rfl) rfl #[.slice A0_0 l0_0.length c0_0, .slice A1_0 l1_0.length c1_0] rfl (by (try simp only [List.map_toArray, List.map_cons, List.map_nil]); first | done | rfl | (simp only [List.length_drop, List.length_take]; rfl)) ?_; (with_reducible refine (laws_eqByteSS.calls k _ _ l0_0 _ _ l1_0 true _ ?side1 ?side2 ?side3 ?side4 A3.out).mono ?_); (case side1 => repeat (first | exact (Kd.C_below HR0_0.out HB.out) | (with_reducible refine Kd.C_alloc ?_ _) | (with_reducible refine Kd.C_drewN ?_ _) | (with_reducible refine Kd.C_drew ?_))); (case side2 => exact HC0_0.out); (case side3 => repeat (first | exact (Kd.C_below HR1_0.out HB.out) | (with_reducible refine Kd.C_alloc ?_ _) | (with_reducible refine Kd.C_drewN ?_ _) | (with_reducible refine Kd.C_drew ?_))); (case side4 => exact HC1_0.out); rintro e w' ⟨rfl, ⟨nd, rfl⟩⟩; refine ⟨_, rfl, ?_⟩) | ((with_reducible refine gate_callee (f := 92) rfl ?_); refine goesL_ (some 15) rfl rfl Try.func92 (by kernel_rfl) rfl #[.slice A0_1 l0_1.length c0_1, .slice A1_1 l1_1.length c1_1] rfl (by (try simp only [List.map_toArray, List.map_cons, List.map_nil]); first | done | rfl | (simp only [List.length_drop, List.length_take]; rfl)) ?_; (with_reducible refine (laws_eqPendS.calls k _ _ l0_1 _ _ l1_1 true _ ?side1 ?side2 ?side3 ?side4 A5.out).mono ?_); (case side1 => repeat (first | exact (Kd.C_below HR0_1.out (by repeat (first | (with_reducible first | exact HB.out | apply below_alloc | apply pw_below_drewN | apply below_drew1 | refine below_set ?_ GE416.out | refine below_set ?_ GE417.out) | exact HB.out))) | (with_reducible refine Kd.C_alloc ?_ _) | (with_reducible refine Kd.C_drewN ?_ _) | (with_reducible refine Kd.C_drew ?_))); (case side2 => exact HC0_1.out); (case side3 => repeat (first | exact (Kd.C_below HR1_1.out (by repeat (first | (with_reducible first | exact HB.out | apply below_alloc | apply pw_below_drewN | apply below_drew1 | refine below_set ?_ GE416.out | refine below_set ?_ GE417.out) | exact HB.out))) | (with_reducible refine Kd.C_alloc ?_ _) | (with_reducible refine Kd.C_drewN ?_ _) | (with_reducible refine Kd.C_drew ?_))); (case side4 => exact HC1_1.out); rintro e w12 ⟨rfl, hb⟩; refine ⟨_, rfl, ?_⟩; have n0_ := Aside0.mk (blk_below (g := gb416) (o := .cells #[.slice A0_0 l0_0.length c0_0, .slice A0_1 l0_1.length c0_1] 44 (0, 0)) (by (with_reducible repeat (first | refine blk_drewN ?_ _ | refine blk_drew ?_ | refine blk_alloc ?_ _)); exact BK416.out) hb); have n1_ := Aside0.mk (blk_below (g := gb417) (o := .cells #[.slice A1_0 l1_0.length c1_0, .slice A1_1 l1_1.length c1_1] 44 (0, 0)) (by (with_reducible repeat (first | refine blk_drewN ?_ _ | refine blk_drew ?_ | refine blk_alloc ?_ _)); exact BK417.out) hb); have n2_ := Aside0.mk (below_step (by repeat (first | (with_reducible first | exact HB.out | apply below_alloc | apply pw_below_drewN | apply below_drew1 | refine below_set ?_ GE416.out | refine below_set ?_ GE417.out) | exact HB.out)) hb); clear BK416; clear BK417; clear HB; have BK416 := n0_; have BK417 := n1_; have HB := n2_; clear n0_ n1_ n2_; (try clear hb); (try clear hb2); (try clear hk); (try clear hi)))
      go_ret
      exact ⟨by first | rfl | (simp [errW_none, errW_some] <;> rfl) | (simp [*, errW_none, errW_some] <;> rfl), by repeat (first | (with_reducible first | exact HB.out | apply below_alloc | apply pw_below_drewN | apply below_drew1 | refine below_set ?_ GE416.out | refine below_set ?_ GE417.out) | exact HB.out)⟩
    · replace c6 := Bool.eq_false_iff.mpr c6
      subst c6
      have H1 : (some false) = some r := by rw [if_neg (show ¬ (false = true) by decide)] at H; exact H
      clear H
      have H := H1
      clear H1
      obtain rfl := Option.some.inj H
      go_enter Try.func28, Try.ntmps28
      go_wp2_with (first | ((with_reducible refine gate_dst (N := 2) rfl ?_); refine box_event ?hg (N := 2) ?hd (cs := #[.slice A0_0 l0_0.length c0_0, .slice A0_1 l0_1.length c0_1]) (t := 44) ?hr ?_; (case hd => rfl); (case hg => rfl); (case hr => first | (go_simp; done) | (go_simp; rfl)); intro gb416 hg w13 hbox hb; have n0_ := Aside0.mk (below_step (by repeat (first | (with_reducible first | exact HB.out | apply below_alloc | apply pw_below_drewN | apply below_drew1) | exact HB.out)) hb); have n1_ := Aside0.mk (hbox); have n2_ := Aside0.mk ((by rw [hg]; exact (below_size (by repeat (first | (with_reducible first | exact HB.out | apply below_alloc | apply pw_below_drewN | apply below_drew1) | exact HB.out))) : w.heap.size ≤ gb416)); have n3_ := Aside0.mk ((by rw [hg]; exact (below_size (by repeat (first | (with_reducible first | exact HB.out | apply below_alloc | apply pw_below_drewN | apply below_drew1) | exact HB.out))) : w.heap.size ≤ gb416)); clear HB; have HB := n0_; have BK416 := n1_; have GW416 := n2_; have GE416 := n3_; clear n0_ n1_ n2_ n3_; clear hb hbox hg) | ((with_reducible refine gate_dst (N := 3) rfl ?_); refine box_event ?hg (N := 3) ?hd (cs := #[.slice A1_0 l1_0.length c1_0, .slice A1_1 l1_1.length c1_1]) (t := 44) ?hr ?_; (case hd => rfl); (case hg => rfl); (case hr => first | (go_simp; done) | (go_simp; rfl)); intro gb417 hg w14 hbox hb; have n0_ := Aside0.mk (blk_below (g := gb416) (o := .cells #[.slice A0_0 l0_0.length c0_0, .slice A0_1 l0_1.length c0_1] 44 (0, 0)) (by (with_reducible repeat (first | refine blk_drewN ?_ _ | refine blk_drew ?_ | refine blk_alloc ?_ _)); exact BK416.out) hb); have n1_ := Aside0.mk (below_step (by repeat (first | (with_reducible first | exact HB.out | apply below_alloc | apply pw_below_drewN | apply below_drew1 | refine below_set ?_ GE416.out) | exact HB.out)) hb); have n2_ := Aside0.mk (hbox); have n3_ := Aside0.mk ((by rw [hg]; exact (below_size (by repeat (first | (with_reducible first | exact HB.out | apply below_alloc | apply pw_below_drewN | apply below_drew1 | refine below_set ?_ GE416.out) | exact HB.out))) : w.heap.size ≤ gb417)); have n4_ := Aside0.mk ((by rw [hg]; exact (below_size (by repeat (first | (with_reducible first | exact HB.out | apply below_alloc | apply pw_below_drewN | apply below_drew1 | refine below_set ?_ GE416.out) | exact HB.out))) : w.heap.size ≤ gb417)); have n5_ := Aside0.mk ((by rw [hg]; exact Nat.ne_of_lt (blk_lt (g := gb416) (o := .cells #[.slice A0_0 l0_0.length c0_0, .slice A0_1 l0_1.length c0_1] 44 (0, 0)) (by (with_reducible repeat (first | refine blk_drewN ?_ _ | refine blk_drew ?_ | refine blk_alloc ?_ _)); exact BK416.out)) : gb416 ≠ gb417)); have n6_ := Aside0.mk ((by rw [hg]; exact Nat.ne_of_gt (blk_lt (g := gb416) (o := .cells #[.slice A0_0 l0_0.length c0_0, .slice A0_1 l0_1.length c0_1] 44 (0, 0)) (by (with_reducible repeat (first | refine blk_drewN ?_ _ | refine blk_drew ?_ | refine blk_alloc ?_ _)); exact BK416.out)) : gb417 ≠ gb416)); clear BK416; clear HB; have BK416 := n0_; have HB := n1_; have BK417 := n2_; have GW417 := n3_; have GE417 := n4_; have NB416_417 := n5_; have NB417_416 := n6_; clear n0_ n1_ n2_ n3_ n4_ n5_ n6_; clear hb hbox hg; have hnb15 := NB416_417.out; have hnc15 := NB417_416.out; have hcz16_0 : w14.cell? ⟨gb416, 0, none⟩ = some (.slice A0_0 l0_0.length c0_0) := (blk_cell BK416.out 0).trans rfl; have hcz16_1 : w14.cell? ⟨gb416, 1, none⟩ = some (.slice A0_1 l0_1.length c0_1) := (blk_cell BK416.out 1).trans rfl; have hfz16_0 := blk_frozen BK416.out 0; have hfz16_1 := blk_frozen BK416.out 1; have hcz17_0 : w14.cell? ⟨gb417, 0, none⟩ = some (.slice A1_0 l1_0.length c1_0) := (blk_cell BK417.out 0).trans rfl; have hcz17_1 : w14.cell? ⟨gb417, 1, none⟩ = some (.slice A1_1 l1_1.length c1_1) := (blk_cell BK417.out 1).trans rfl; have hfz17_0 := blk_frozen BK417.out 0; have hfz17_1 := blk_frozen BK417.out 1) | ((with_reducible refine gate_callee (f := 91) rfl ?_); refine goesL_ (some 9) rfl rfl Try.func91 (by kernel_rfl) rfl #[.slice A0_0 l0_0.length c0_0, .slice A1_0 l1_0.length c1_0] rfl (by (try simp only [List.map_toArray, List.map_cons, List.map_nil]); first | done | rfl | (simp only [List.length_drop, List.length_take]; rfl)) ?_; (with_reducible refine (laws_eqByteSS.calls k _ _ l0_0 _ _ l1_0 true _ ?side1 ?side2 ?side3 ?side4 A3.out).mono ?_); (case side1 => repeat (first | exact (Kd.C_below HR0_0.out HB.out) | (with_reducible refine Kd.C_alloc ?_ _) | (with_reducible refine Kd.C_drewN ?_ _) | (with_reducible refine Kd.C_drew ?_))); (case side2 => exact HC0_0.out); (case side3 => repeat (first | exact (Kd.C_below HR1_0.out HB.out) | (with_reducible refine Kd.C_alloc ?_ _) | (with_reducible refine Kd.C_drewN ?_ _) | (with_reducible refine Kd.C_drew ?_))); (case side4 => exact HC1_0.out); rintro e w' ⟨rfl, ⟨nd, rfl⟩⟩; refine ⟨_, rfl, ?_⟩) | ((with_reducible refine gate_callee (f := 92) rfl ?_); refine goesL_ (some 15) rfl rfl Try.func92 (by kernel_rfl) rfl #[.slice A0_1 l0_1.length c0_1, .slice A1_1 l1_1.length c1_1] rfl (by (try simp only [List.map_toArray, List.map_cons, List.map_nil]); first | done | rfl | (simp only [List.length_drop, List.length_take]; rfl)) ?_; (with_reducible refine (laws_eqPendS.calls k _ _ l0_1 _ _ l1_1 false _ ?side1 ?side2 ?side3 ?side4 A5.out).mono ?_); (case side1 => repeat (first | exact (Kd.C_below HR0_1.out (by repeat (first | (with_reducible first | exact HB.out | apply below_alloc | apply pw_below_drewN | apply below_drew1 | refine below_set ?_ GE416.out | refine below_set ?_ GE417.out) | exact HB.out))) | (with_reducible refine Kd.C_alloc ?_ _) | (with_reducible refine Kd.C_drewN ?_ _) | (with_reducible refine Kd.C_drew ?_))); (case side2 => exact HC0_1.out); (case side3 => repeat (first | exact (Kd.C_below HR1_1.out (by repeat (first | (with_reducible first | exact HB.out | apply below_alloc | apply pw_below_drewN | apply below_drew1 | refine below_set ?_ GE416.out | refine below_set ?_ GE417.out) | exact HB.out))) | (with_reducible refine Kd.C_alloc ?_ _) | (with_reducible refine Kd.C_drewN ?_ _) | (with_reducible refine Kd.C_drew ?_))); (case side4 => exact HC1_1.out); rintro e w18 ⟨rfl, hb⟩; refine ⟨_, rfl, ?_⟩; have n0_ := Aside0.mk (blk_below (g := gb416) (o := .cells #[.slice A0_0 l0_0.length c0_0, .slice A0_1 l0_1.length c0_1] 44 (0, 0)) (by (with_reducible repeat (first | refine blk_drewN ?_ _ | refine blk_drew ?_ | refine blk_alloc ?_ _)); exact BK416.out) hb); have n1_ := Aside0.mk (blk_below (g := gb417) (o := .cells #[.slice A1_0 l1_0.length c1_0, .slice A1_1 l1_1.length c1_1] 44 (0, 0)) (by (with_reducible repeat (first | refine blk_drewN ?_ _ | refine blk_drew ?_ | refine blk_alloc ?_ _)); exact BK417.out) hb); have n2_ := Aside0.mk (below_step (by repeat (first | (with_reducible first | exact HB.out | apply below_alloc | apply pw_below_drewN | apply below_drew1 | refine below_set ?_ GE416.out | refine below_set ?_ GE417.out) | exact HB.out)) hb); clear BK416; clear BK417; clear HB; have BK416 := n0_; have BK417 := n1_; have HB := n2_; clear n0_ n1_ n2_; (try clear hb); (try clear hb2); (try clear hk); (try clear hi)))
      go_ret
      exact ⟨by first | rfl | (simp [errW_none, errW_some] <;> rfl) | (simp [*, errW_none, errW_some] <;> rfl), by repeat (first | (with_reducible first | exact HB.out | apply below_alloc | apply pw_below_drewN | apply below_drew1 | refine below_set ?_ GE416.out | refine below_set ?_ GE417.out) | exact HB.out)⟩
  · replace c4 := Bool.eq_false_iff.mpr c4
    subst c4
    have H1 : (some false) = some r := by rw [if_neg (show ¬ (false = true) by decide)] at H; exact H
    clear H
    have H := H1
    clear H1
    obtain rfl := Option.some.inj H
    go_enter Try.func28, Try.ntmps28
    go_wp2_with (first | ((with_reducible refine gate_dst (N := 2) rfl ?_); refine box_event ?hg (N := 2) ?hd (cs := #[.slice A0_0 l0_0.length c0_0, .slice A0_1 l0_1.length c0_1]) (t := 44) ?hr ?_; (case hd => rfl); (case hg => rfl); (case hr => first | (go_simp; done) | (go_simp; rfl)); intro gb416 hg w19 hbox hb; have n0_ := Aside0.mk (below_step (by repeat (first | (with_reducible first | exact HB.out | apply below_alloc | apply pw_below_drewN | apply below_drew1) | exact HB.out)) hb); have n1_ := Aside0.mk (hbox); have n2_ := Aside0.mk ((by rw [hg]; exact (below_size (by repeat (first | (with_reducible first | exact HB.out | apply below_alloc | apply pw_below_drewN | apply below_drew1) | exact HB.out))) : w.heap.size ≤ gb416)); have n3_ := Aside0.mk ((by rw [hg]; exact (below_size (by repeat (first | (with_reducible first | exact HB.out | apply below_alloc | apply pw_below_drewN | apply below_drew1) | exact HB.out))) : w.heap.size ≤ gb416)); clear HB; have HB := n0_; have BK416 := n1_; have GW416 := n2_; have GE416 := n3_; clear n0_ n1_ n2_ n3_; clear hb hbox hg) | ((with_reducible refine gate_dst (N := 3) rfl ?_); refine box_event ?hg (N := 3) ?hd (cs := #[.slice A1_0 l1_0.length c1_0, .slice A1_1 l1_1.length c1_1]) (t := 44) ?hr ?_; (case hd => rfl); (case hg => rfl); (case hr => first | (go_simp; done) | (go_simp; rfl)); intro gb417 hg w20 hbox hb; have n0_ := Aside0.mk (blk_below (g := gb416) (o := .cells #[.slice A0_0 l0_0.length c0_0, .slice A0_1 l0_1.length c0_1] 44 (0, 0)) (by (with_reducible repeat (first | refine blk_drewN ?_ _ | refine blk_drew ?_ | refine blk_alloc ?_ _)); exact BK416.out) hb); have n1_ := Aside0.mk (below_step (by repeat (first | (with_reducible first | exact HB.out | apply below_alloc | apply pw_below_drewN | apply below_drew1 | refine below_set ?_ GE416.out) | exact HB.out)) hb); have n2_ := Aside0.mk (hbox); have n3_ := Aside0.mk ((by rw [hg]; exact (below_size (by repeat (first | (with_reducible first | exact HB.out | apply below_alloc | apply pw_below_drewN | apply below_drew1 | refine below_set ?_ GE416.out) | exact HB.out))) : w.heap.size ≤ gb417)); have n4_ := Aside0.mk ((by rw [hg]; exact (below_size (by repeat (first | (with_reducible first | exact HB.out | apply below_alloc | apply pw_below_drewN | apply below_drew1 | refine below_set ?_ GE416.out) | exact HB.out))) : w.heap.size ≤ gb417)); have n5_ := Aside0.mk ((by rw [hg]; exact Nat.ne_of_lt (blk_lt (g := gb416) (o := .cells #[.slice A0_0 l0_0.length c0_0, .slice A0_1 l0_1.length c0_1] 44 (0, 0)) (by (with_reducible repeat (first | refine blk_drewN ?_ _ | refine blk_drew ?_ | refine blk_alloc ?_ _)); exact BK416.out)) : gb416 ≠ gb417)); have n6_ := Aside0.mk ((by rw [hg]; exact Nat.ne_of_gt (blk_lt (g := gb416) (o := .cells #[.slice A0_0 l0_0.length c0_0, .slice A0_1 l0_1.length c0_1] 44 (0, 0)) (by (with_reducible repeat (first | refine blk_drewN ?_ _ | refine blk_drew ?_ | refine blk_alloc ?_ _)); exact BK416.out)) : gb417 ≠ gb416)); clear BK416; clear HB; have BK416 := n0_; have HB := n1_; have BK417 := n2_; have GW417 := n3_; have GE417 := n4_; have NB416_417 := n5_; have NB417_416 := n6_; clear n0_ n1_ n2_ n3_ n4_ n5_ n6_; clear hb hbox hg; have hnb21 := NB416_417.out; have hnc21 := NB417_416.out; have hcz22_0 : w20.cell? ⟨gb416, 0, none⟩ = some (.slice A0_0 l0_0.length c0_0) := (blk_cell BK416.out 0).trans rfl; have hcz22_1 : w20.cell? ⟨gb416, 1, none⟩ = some (.slice A0_1 l0_1.length c0_1) := (blk_cell BK416.out 1).trans rfl; have hfz22_0 := blk_frozen BK416.out 0; have hfz22_1 := blk_frozen BK416.out 1; have hcz23_0 : w20.cell? ⟨gb417, 0, none⟩ = some (.slice A1_0 l1_0.length c1_0) := (blk_cell BK417.out 0).trans rfl; have hcz23_1 : w20.cell? ⟨gb417, 1, none⟩ = some (.slice A1_1 l1_1.length c1_1) := (blk_cell BK417.out 1).trans rfl; have hfz23_0 := blk_frozen BK417.out 0; have hfz23_1 := blk_frozen BK417.out 1) | ((with_reducible refine gate_callee (f := 91) rfl ?_); refine goesL_ (some 9) rfl rfl Try.func91 (by kernel_rfl) rfl #[.slice A0_0 l0_0.length c0_0, .slice A1_0 l1_0.length c1_0] rfl (by (try simp only [List.map_toArray, List.map_cons, List.map_nil]); first | done | rfl | (simp only [List.length_drop, List.length_take]; rfl)) ?_; (with_reducible refine (laws_eqByteSS.calls k _ _ l0_0 _ _ l1_0 false _ ?side1 ?side2 ?side3 ?side4 A3.out).mono ?_); (case side1 => repeat (first | exact (Kd.C_below HR0_0.out HB.out) | (with_reducible refine Kd.C_alloc ?_ _) | (with_reducible refine Kd.C_drewN ?_ _) | (with_reducible refine Kd.C_drew ?_))); (case side2 => exact HC0_0.out); (case side3 => repeat (first | exact (Kd.C_below HR1_0.out HB.out) | (with_reducible refine Kd.C_alloc ?_ _) | (with_reducible refine Kd.C_drewN ?_ _) | (with_reducible refine Kd.C_drew ?_))); (case side4 => exact HC1_0.out); rintro e w' ⟨rfl, ⟨nd, rfl⟩⟩; refine ⟨_, rfl, ?_⟩))
    go_ret
    exact ⟨by first | rfl | (simp [errW_none, errW_some] <;> rfl) | (simp [*, errW_none, errW_some] <;> rfl), by repeat (first | (with_reducible first | exact HB.out | apply below_alloc | apply pw_below_drewN | apply below_drew1 | refine below_set ?_ GE416.out | refine below_set ?_ GE417.out) | exact HB.out)⟩

end Go.Proofs.Ytlopmffdebhpfaa.G

/-! ## Law5 -/
namespace Go.Proofs.Ytlopmffdebhpfaa.G
open Go.RowKit Go.Proofs.YtlopmffdebhpfaaW.PrintWords Go.Proofs.YtlopmffdebhpfaaW.PrintLast Go.Proofs.YtlopmffdebhpfaaW.PrintMore
open Go.Proofs.Ytlopmffdebhpfaa.Pure (marks marks_length mark_l0)
set_option linter.unusedVariables false
set_option linter.unusedSimpArgs false

theorem IsDisk_grown {w w1 : World} {base g : Nat} {P Q : Nat → Prop} {v0 v1 : Value} {r1 : List (List Int)} {r2 : List S185} (h : IsDisk w base P Q v0 v1 r1 r2) (hg : w.grownBy w1 (some g)) (hne : ∀ q, P q ∨ Q q → q ≠ g) : IsDisk w1 base P Q v0 v1 r1 r2 :=
  ⟨h.1, Kd.S_grown h.2.1 hg (fun q hq e => hne q (.inl hq) (Option.some.inj e)), Kd.S_grown h.2.2 hg (fun q hq e => hne q (.inr hq) (Option.some.inj e))⟩
/-- Its blocks are among those made between two worlds. -/
theorem IsDisk_between {w w1 : World} {base : Nat} {P Q : Nat → Prop} {v0 v1 : Value} {r1 : List (List Int)} {r2 : List S185} (h : IsDisk w1 w.heap.size P Q v0 v1 r1 r2) (hb : base ≤ w.heap.size) : ∃ P' Q', (∀ q, P' q ∨ Q' q → w.heap.size ≤ q ∧ q < w1.heap.size) ∧ IsDisk w1 base P' Q' v0 v1 r1 r2 :=
  ⟨fun q => P q ∧ w.heap.size ≤ q ∧ q < w1.heap.size, fun q => Q q ∧ w.heap.size ≤ q ∧ q < w1.heap.size, fun q hq => hq.elim (fun h => h.2) (fun h => h.2), fun q h1 h2 => h.1 q h1.1 h2.1,
    Kd.S_lower (Kd.S_mono (Kd.S_bound h.2.1) (fun q hq => ⟨hq.1, hq.2.1, hq.2.2.1⟩)) hb, Kd.S_lower (Kd.S_mono (Kd.S_bound h.2.2) (fun q hq => ⟨hq.1, hq.2.1, hq.2.2.1⟩)) hb⟩
theorem R_between {w w1 : World} {base : Nat} {v : Value} {xs : List Int} (h : Kd.R (Kd.int .u8) 5 w1 w.heap.size (fun _ => True) v xs) (hb : base ≤ w.heap.size) : Kd.R (Kd.int .u8) 5 w1 base (fun q => w.heap.size ≤ q ∧ q < w1.heap.size) v xs :=
  Kd.R_lower (Kd.R_mono (Kd.R_bound h) (fun q hq => ⟨hq.2.1, hq.2.2.1⟩)) hb
set_option maxHeartbeats 4000000 in
set_option maxRecDepth 100000 in
theorem laws_FnExactReadSector.small (k : Nat) (A0 : Option Addr) (c0 : Nat) (l0 : List (List Int)) (A1 : Option Addr) (c1 : Nat) (l1 : List S184) (x s : Int) (w : World) (hr0 : Kd.C (Kd.slice 5 (Kd.int .u8)) w A0 l0.length l0) (hc0 : l0.length ≤ c0) (hr1 : Kd.C k184 w A1 l1.length l1) (hc1 : l1.length ≤ c1) (hsz : laws_szDisk.f k l0 l1 1048576 = some s) (hs : s < 0) :
    Calls Try.prog 5 #[.agg #[.slice A0 l0.length c0, .slice A1 l1.length c1], .int .i64 x] w fun e w' => e = .returned (.bool true) ∧ Below w.heap.size w w' := by
  have hu39 := Try.underlying39
  have HR0 := Aside0.mk hr0
  have HR1 := Aside0.mk hr1
  have HC0 := Aside0.mk hc0
  have HC1 := Aside0.mk hc1
  have N0 := Aside0.mk hsz
  clear hr0 hr1 hc0 hc1 hsz
  go_enter Try.func5, Try.ntmps5
  go_wp2_with (first | ((with_reducible refine gate_dst (N := 2) rfl ?_); refine box_event ?hg (N := 2) ?hd (cs := #[.slice A0 l0.length c0, .slice A1 l1.length c1]) (t := 39) ?hr ?_; (case hd => rfl); (case hg => rfl); (case hr => first | (go_simp; done) | (go_simp; rfl)); intro gp hgr w1 hbox hbel; have BP := Aside0.mk hbox; have GP := Aside0.mk hgr; have HB := Aside0.mk hbel; have hp0 : w1.cell? ⟨gp, 0, none⟩ = some (.slice A0 l0.length c0) := (blk_cell hbox 0).trans rfl; have hp1 : w1.cell? ⟨gp, 1, none⟩ = some (.slice A1 l1.length c1) := (blk_cell hbox 1).trans rfl; clear hbox hbel hgr))
  refine (laws_szDisk.calls k A0 c0 l0 A1 c1 l1 1048576 s _ (Kd.C_below HR0.out HB.out) HC0.out (Kd.C_below HR1.out HB.out) HC1.out N0.out).mono ?_
  rintro e w2 ⟨rfl, hb⟩
  have HB2 := Aside0.mk (below_step HB.out hb)
  have d1 : decide (s < 0) = true := decide_eq_true hs
  go_wp2_with fail
  go_ret
  exact ⟨rfl, HB2.out⟩

def laws_FnExactReadSector.T10 : Bool × List (List Nat × List Nat) := (true, [([], []), ([], []), ([1], [1]), ([0, 2, 2], [0, 2]), ([3], [3])])
def laws_FnExactReadSector.B10 : List Nat := [0, 0, 2, 7, 15]
theorem laws_FnExactReadSector.tab10 : rtab .any (opsOf Try.f5 10) = laws_FnExactReadSector.T10 := by kernel_rfl
theorem laws_FnExactReadSector.bits10 : waitsOk laws_FnExactReadSector.T10.2 laws_FnExactReadSector.B10 = true := by kernel_rfl
set_option maxHeartbeats 8000000 in
set_option maxRecDepth 100000 in
theorem laws_FnExactReadSector.full (k k2 k3 k4 k5 k6 k7 : Nat) (A0 : Option Addr) (c0 : Nat) (l0 : List (List Int)) (A1 : Option Addr) (c1 : Nat) (l1 : List S184) (x s : Int) (d0 : List (List Int)) (d1 : List S185) (ra : List Int) (rb : Bool) (w : World) (hr0 : Kd.C (Kd.slice 5 (Kd.int .u8)) w A0 l0.length l0) (hc0 : l0.length ≤ c0) (hr1 : Kd.C k184 w A1 l1.length l1) (hc1 : l1.length ≤ c1)
    (hsz : laws_szDisk.f k l0 l1 1048576 = some s) (hs : ¬ s < 0) (hto : laws_toDisk.f k2 l0 l1 = some (d0, d1)) (hsp : spec_ReadSector.f k3 d0 d1 x = some (ra, rb)) (him : impl_ReadSector.f k4 d0 d1 x = some (ra, rb))
    (heq : laws_eqByteS.f k5 ra ra = some true) (hed : laws_eqDisk.f k6 d0 d1 d0 d1 = some true) (hsum : 1 + (totL d0 : Int) + totP d1 ≤ 4611686018427387904) (hra : (ra.length : Int) ≤ 4611686018427387904) (hhe : laws_heldByteS.f k7 (marks ra.length 1) 1 = some (1 + (ra.length : Int)))
    (hx : (Lit.int .i64 x).wf = true) (hwf : ∀ p ∈ d1, (Lit.int .i64 p.f0).wf = true) :
    Calls Try.prog 5 #[.agg #[.slice A0 l0.length c0, .slice A1 l1.length c1], .int .i64 x] w fun e w' => e = .returned (.bool true) ∧ Below w.heap.size w w' := by
  have hu39 := Try.underlying39
  have hu44 := Try.underlying44
  have HR0 := Aside0.mk hr0
  have HR1 := Aside0.mk hr1
  have HC0 := Aside0.mk hc0
  have HC1 := Aside0.mk hc1
  obtain ⟨km, hmk⟩ := markB_at (l := ra) (m := 1) (by omega) (by omega)
  have N0 := Aside0.mk hsz
  have N1 := Aside0.mk hto
  have N2 := Aside0.mk hsp
  have N3 := Aside0.mk him
  have N4 := Aside0.mk heq
  have N5 := Aside0.mk hed
  have N6 := Aside0.mk hmk
  have N7 := Aside0.mk hhe
  have NS := Aside0.mk hsum
  have NR := Aside0.mk hra
  have NX := Aside0.mk hx
  have NW := Aside0.mk hwf
  have e1 : decide (s < 0) = false := decide_eq_false hs
  have e2 : decide ((1 + (totL d0 : Int) + totP d1) < 0) = false := decide_eq_false (by omega)
  have e3 : decide ((1 + (ra.length : Int)) < 0) = false := decide_eq_false (by omega)
  clear hr0 hr1 hc0 hc1 hsz hto hsp him heq hed hmk hhe hsum hra hx hwf hs
  go_enter Try.func5, Try.ntmps5
  go_wp2_with (first | ((with_reducible refine gate_dst (N := 2) rfl ?_); refine box_event ?hg (N := 2) ?hd (cs := #[.slice A0 l0.length c0, .slice A1 l1.length c1]) (t := 39) ?hr ?_; (case hd => rfl); (case hg => rfl); (case hr => first | (go_simp; done) | (go_simp; rfl)); intro gp hgr w1 hbox hbel; have BP := Aside0.mk hbox; have GP := Aside0.mk hgr; have HB := Aside0.mk hbel; have hp0 : w1.cell? ⟨gp, 0, none⟩ = some (.slice A0 l0.length c0) := (blk_cell hbox 0).trans rfl; have hp1 : w1.cell? ⟨gp, 1, none⟩ = some (.slice A1 l1.length c1) := (blk_cell hbox 1).trans rfl; clear hbox hbel hgr))
  refine (laws_szDisk.calls k A0 c0 l0 A1 c1 l1 1048576 s _ (Kd.C_below HR0.out HB.out) HC0.out (Kd.C_below HR1.out HB.out) HC1.out N0.out).mono ?_
  rintro e w2 ⟨rfl, hb⟩
  clear hp0 hp1
  have BP := Aside0.mk (blk_below BP.out hb)
  have HB := Aside0.mk (below_step HB.out hb)
  have hp0 : w2.cell? ⟨gp, 0, none⟩ = some (.slice A0 l0.length c0) := (blk_cell BP.out 0).trans rfl
  have hp1 : w2.cell? ⟨gp, 1, none⟩ = some (.slice A1 l1.length c1) := (blk_cell BP.out 1).trans rfl
  clear hb
  go_wp2_with fail
  refine (laws_toDisk.apart k2 A0 c0 l0 A1 c1 l1 d0 d1 _ (Kd.C_below HR0.out HB.out) HC0.out (Kd.C_below HR1.out HB.out) HC1.out N1.out).mono ?_
  rintro e w3 ⟨v0, v1, P1, Q1, rfl, hd, hb⟩
  clear hp0 hp1
  have BP := Aside0.mk (blk_below BP.out hb)
  have HB := Aside0.mk (below_step HB.out hb)
  have hp0 : w3.cell? ⟨gp, 0, none⟩ = some (.slice A0 l0.length c0) := (blk_cell BP.out 0).trans rfl
  have hp1 : w3.cell? ⟨gp, 1, none⟩ = some (.slice A1 l1.length c1) := (blk_cell BP.out 1).trans rfl
  obtain ⟨Y0, yc0, rfl⟩ := Kd.S_slice hd.2.1
  obtain ⟨Y1, yc1, rfl⟩ := Kd.S_slice hd.2.2
  have HY := Aside0.mk hd
  clear hb hd
  go_wp2_with fail
  refine (spec_ReadSector.calls k3 Y0 yc0 d0 Y1 yc1 d1 x ra rb _ (Kd.S_reads' HY.out.2.1).2.2 (Kd.S_reads' HY.out.2.1).2.1 (Kd.S_reads' HY.out.2.2).2.2 (Kd.S_reads' HY.out.2.2).2.1 N2.out).mono ?_
  rintro e w4 ⟨vw, rfl, hv, hb⟩
  clear hp0 hp1
  have HW := Aside0.mk (R_between hv HB.out.size)
  have BP := Aside0.mk (blk_below BP.out hb)
  have HB := Aside0.mk (below_step HB.out hb)
  have hp0 : w4.cell? ⟨gp, 0, none⟩ = some (.slice A0 l0.length c0) := (blk_cell BP.out 0).trans rfl
  have hp1 : w4.cell? ⟨gp, 1, none⟩ = some (.slice A1 l1.length c1) := (blk_cell BP.out 1).trans rfl
  obtain ⟨Aw, cw, rfl⟩ := Kd.R_slice HW.out
  have HWN : Aside0 (∀ q, w3.heap.size ≤ q ∧ q < w4.heap.size → q < w4.heap.size) := ⟨fun q h => h.2⟩
  clear hb hv HY
  go_wp2_with fail
  refine (laws_toDisk.apart k2 A0 c0 l0 A1 c1 l1 d0 d1 _ (Kd.C_below HR0.out HB.out) HC0.out (Kd.C_below HR1.out HB.out) HC1.out N1.out).mono ?_
  rintro e w5 ⟨v0, v1, P1, Q1, rfl, hd, hb⟩
  clear hp0 hp1
  have H45R := Aside0.mk hb.size
  obtain ⟨P2, Q2, hPQ, hd2⟩ := IsDisk_between hd HB.out.size
  have GPL : Aside0 (gp < w4.heap.size) := ⟨blk_lt BP.out⟩
  have GPW : Aside0 (gp ≥ w.heap.size) := ⟨Nat.le_of_eq GP.out.symm⟩
  have BP := Aside0.mk (blk_below BP.out hb)
  have HB := Aside0.mk (below_step HB.out hb)
  have HW := Aside0.mk (Kd.R_below HW.out hb)
  have hp0 : w5.cell? ⟨gp, 0, none⟩ = some (.slice A0 l0.length c0) := (blk_cell BP.out 0).trans rfl
  have hp1 : w5.cell? ⟨gp, 1, none⟩ = some (.slice A1 l1.length c1) := (blk_cell BP.out 1).trans rfl
  obtain ⟨X0, xc0, rfl⟩ := Kd.S_slice hd2.2.1
  obtain ⟨X1, xc1, rfl⟩ := Kd.S_slice hd2.2.2
  have HX := Aside0.mk hd2
  have HPQ := Aside0.mk hPQ
  clear hb hd hd2 hPQ
  go_wp2_with (first | ((with_reducible refine gate_dst (N := 8) rfl ?_); refine box_event ?hg (N := 8) ?hd (cs := #[.slice none 0 0, .slice none 0 0]) (t := 44) ?hr ?_; (case hd => rfl); (case hg => rfl); (case hr => first | (go_simp; done) | (go_simp; rfl)); intro g8 hgr w6 hbox hbel; have B8a := Aside0.mk hbox; have G8 := Aside0.mk hgr; have hb := hbel; have G8W : Aside0 (w.heap.size ≤ g8) := ⟨by rw [hgr]; exact HB.out.size⟩; have H57a : Aside0 (w5.heap.size ≤ w6.heap.size) := ⟨hbel.size⟩; have H45 : Aside0 (w4.heap.size ≤ w5.heap.size) := ⟨by have h := GPL.out; have h2 := H45R.out; exact h2⟩; have NPG : Aside0 (gp ≠ g8) := ⟨by have := blk_lt BP.out; omega⟩; have BP := Aside0.mk (blk_below BP.out hb); have HB := Aside0.mk (below_step HB.out hb); have HW := Aside0.mk (Kd.R_below HW.out hb); have HX := Aside0.mk (IsDisk_below HX.out hb); clear hb; clear hbox hbel hgr) | ((with_reducible refine gate_ (.store 44 (.tmp 8) (.tmp 29)) rfl ?_); refine store_blk rfl rfl 44 (.tmp 8) (.tmp 29) rfl (off := 0) (u := .agg #[.slice X0 d0.length xc0, .slice X1 d1.length xc1]) #[.slice X0 d0.length xc0, .slice X1 d1.length xc1] rfl rfl B8a.out [.slice X0 d0.length xc0, .slice X1 d1.length xc1] rfl (by kernel_rfl) (Nat.le_of_ble_eq_true rfl) rfl rfl ?_; intro w7 hblk hgrw; have B8 := Aside0.mk hblk; have BP := Aside0.mk (blk_grown BP.out hgrw (fun e => NPG.out (Option.some.inj e))); have HB := Aside0.mk (HB.out.grown hgrw HB.out.size (by intro q hq; cases hq; exact G8W.out)); have HW := Aside0.mk (Kd.R_grown HW.out hgrw (fun q hq e => by have := hq.2; have := G8.out; have := H45.out; have := Option.some.inj e; omega)); have HX := Aside0.mk (IsDisk_grown HX.out hgrw (fun q hq e => by have := (HPQ.out q hq).2; have := G8.out; omega)); have H57 : Aside0 (w5.heap.size ≤ w7.heap.size) := ⟨Nat.le_trans H57a.out hgrw.size⟩; have H47 : Aside0 (w4.heap.size ≤ w7.heap.size) := ⟨Nat.le_trans H45.out (Nat.le_trans H57a.out hgrw.size)⟩; have hp0 : w7.cell? ⟨gp, 0, none⟩ = some (.slice A0 l0.length c0) := (blk_cell BP.out 0).trans rfl; have hp1 : w7.cell? ⟨gp, 1, none⟩ = some (.slice A1 l1.length c1) := (blk_cell BP.out 1).trans rfl; have hx0 : w7.cell? ⟨g8, 0, none⟩ = some (.slice X0 d0.length xc0) := (blk_cell B8.out 0).trans rfl; have hx1 : w7.cell? ⟨g8, 1, none⟩ = some (.slice X1 d1.length xc1) := (blk_cell B8.out 1).trans rfl; clear hblk hgrw))
  refine (impl_ReadSector.calls k4 X0 xc0 d0 X1 xc1 d1 x ra rb _ (Kd.S_reads' HX.out.2.1).2.2 (Kd.S_reads' HX.out.2.1).2.1 (Kd.S_reads' HX.out.2.2).2.2 (Kd.S_reads' HX.out.2.2).2.1 NX.out NW.out N3.out).mono ?_
  rintro e w8 ⟨vg, rfl, hv, hb⟩
  clear hp0 hp1 hx0 hx1
  have HG := Aside0.mk (R_between hv HB.out.size)
  have G8L : Aside0 (g8 < w7.heap.size) := ⟨blk_lt B8.out⟩
  have BP := Aside0.mk (blk_below BP.out hb)
  have HB := Aside0.mk (below_step HB.out hb)
  have HW := Aside0.mk (Kd.R_below HW.out hb)
  have B8 := Aside0.mk (blk_below B8.out hb)
  have HX := Aside0.mk (IsDisk_below HX.out hb)
  obtain ⟨Ag, cg, rfl⟩ := Kd.R_slice HG.out
  clear hb hv
  go_wp2_with fail
  refine (laws_eqByteS.calls k5 Ag cg ra Aw cw ra true _ (Kd.R_reads' HG.out).2.2 (Kd.R_reads' HG.out).2.1 (Kd.R_reads' HW.out).2.2 (Kd.R_reads' HW.out).2.1 N4.out).mono ?_
  rintro e w9 ⟨rfl, hdr⟩
  have hb := hdr.below
  have BP := Aside0.mk (blk_below BP.out hb)
  have HB := Aside0.mk (below_step HB.out hb)
  have HW := Aside0.mk (Kd.R_below HW.out hb)
  have B8 := Aside0.mk (blk_below B8.out hb)
  have HX := Aside0.mk (IsDisk_below HX.out hb)
  have HG := Aside0.mk (Kd.R_below HG.out hb)
  clear hb hdr
  go_wp2_with fail
  refine start_ (n := 5) (S := fun w' => w'.heap[gp]? = some (.cells #[.slice A0 l0.length c0, .slice A1 l1.length c1] 39 (0, 0)) ∧ w'.heap[g8]? = some (.cells #[.slice X0 d0.length xc0, .slice X1 d1.length xc1] 44 (0, 0))) (ds := []) #[false, false, false, false, false] (by kernel_rfl) rfl rfl (⟨blk_drew BP.out, blk_drew B8.out⟩) (fun hHeld => ?_); refine with_tabW laws_FnExactReadSector.tab10 laws_FnExactReadSector.bits10 (fun HT_ HW_ => ?_)
  have HB := Aside0.mk (below_drew1 HB.out)
  have HW := Aside0.mk (Kd.R_drew HW.out)
  have HG := Aside0.mk (Kd.R_drew HG.out)
  have HX := Aside0.mk (show IsDisk w9.drew w.heap.size P2 Q2 (.slice X0 d0.length xc0) (.slice X1 d1.length xc1) d0 d1 from ⟨HX.out.1, Kd.S_drew HX.out.2.1, Kd.S_drew HX.out.2.2⟩)
  refine take_ (i := 0) (N := some 45) (v := ?_) (a' := ?_) #[true, false, false, false, false] rfl rfl (take_ofW HT_.out HW_.out (by kernel_rfl)) (fun _ _ _ h => h) (Or.inl ⟨by rfl, ?_⟩) hHeld ?_ ?_
  rotate_left
  · intro w' s0
    have hx0 : w'.cell? ⟨g8, 0, none⟩ = some (.slice X0 d0.length xc0) := (blk_cell s0.2 0).trans rfl
    have hx1 : w'.cell? ⟨g8, 1, none⟩ = some (.slice X1 d1.length xc1) := (blk_cell s0.2 1).trans rfl
    clear s0
    go_simp
    with_reducible rfl
  rotate_left
  · simp only [Act.put, List.setIfInBounds_toArray, List.set_cons_zero, List.set_cons_succ, i64_w, i32_w]
    rfl
  refine take_ (i := 1) (N := some 46) (v := ?_) (a' := ?_) #[true, true, false, false, false] rfl rfl (take_ofW HT_.out HW_.out (by kernel_rfl)) (fun _ _ _ h => h) (Or.inl ⟨by rfl, ?_⟩) hHeld ?_ ?_
  rotate_left
  · intro w' s0
    have hp0 : w'.cell? ⟨gp, 0, none⟩ = some (.slice A0 l0.length c0) := (blk_cell s0.1 0).trans rfl
    have hp1 : w'.cell? ⟨gp, 1, none⟩ = some (.slice A1 l1.length c1) := (blk_cell s0.1 1).trans rfl
    clear s0
    go_simp
    with_reducible rfl
  rotate_left
  · simp only [Act.put, List.setIfInBounds_toArray, List.set_cons_zero, List.set_cons_succ, i64_w, i32_w]
    rfl
  refine one_ (i := 2) (N := some 47) #[true, true, true, false, false] rfl rfl (one_of HT_.out (by kernel_rfl)) (by decide) (fun K hK => ?_)
  refine goes_ Try.func26 (by kernel_rfl) rfl #[.agg #[.slice A0 l0.length c0, .slice A1 l1.length c1]] (by rfl) rfl rfl (by first | rfl | (simp only [List.map_toArray, List.map_cons, List.map_nil]; first | done | rfl)) ?_
  refine (laws_toDisk.apart k2 A0 c0 l0 A1 c1 l1 d0 d1 _ (Kd.C_below HR0.out HB.out) HC0.out (Kd.C_below HR1.out HB.out) HC1.out N1.out).mono ?_
  rintro e w10 ⟨v0, v1, P3, Q3, rfl, hd, hb⟩
  refine ⟨_, rfl, ?_⟩
  have BP := Aside0.mk (blk_below hHeld.1 hb)
  have B8 := Aside0.mk (blk_below hHeld.2 hb)
  have HB := Aside0.mk (below_step HB.out hb)
  have HW := Aside0.mk (Kd.R_below HW.out hb)
  have HG := Aside0.mk (Kd.R_below HG.out hb)
  have HX := Aside0.mk (IsDisk_below HX.out hb)
  obtain ⟨Z0, zc0, rfl⟩ := Kd.S_slice hd.2.1
  obtain ⟨Z1, zc1, rfl⟩ := Kd.S_slice hd.2.2
  have HZ := Aside0.mk hd
  clear hb hd hHeld
  refine hK.out _ _ (⟨BP.out, B8.out⟩) (fun hHeld => ?_)
  clear hK K
  refine norm_ (a' := ?_) ?_ ?_
  rotate_left
  · show Act.put _ (some 47) _ = _
    simp only [Act.put, List.setIfInBounds_toArray, List.set_cons_zero, List.set_cons_succ, i64_w, i32_w]
    rfl
  refine one_ (i := 3) (N := some 48) #[true, true, true, true, false] rfl rfl (one_of HT_.out (by kernel_rfl)) (by decide) (fun K hK => ?_)
  refine goes_ Try.func28 (by kernel_rfl) rfl #[.agg #[.slice X0 d0.length xc0, .slice X1 d1.length xc1], .agg #[.slice Z0 d0.length zc0, .slice Z1 d1.length zc1]] (by rfl) rfl rfl (by first | rfl | (simp only [List.map_toArray, List.map_cons, List.map_nil]; first | done | rfl)) ?_
  refine (laws_eqDisk.calls k6 X0 xc0 d0 X1 xc1 d1 Z0 zc0 d0 Z1 zc1 d1 true _ (Kd.S_reads' HX.out.2.1).2.2 (Kd.S_reads' HX.out.2.1).2.1 (Kd.S_reads' HX.out.2.2).2.2 (Kd.S_reads' HX.out.2.2).2.1 (Kd.S_reads' HZ.out.2.1).2.2 (Kd.S_reads' HZ.out.2.1).2.1 (Kd.S_reads' HZ.out.2.2).2.2 (Kd.S_reads' HZ.out.2.2).2.1 N5.out).mono ?_
  rintro e w11 ⟨rfl, hb⟩
  refine ⟨_, rfl, ?_⟩
  have BP := Aside0.mk (blk_below hHeld.1 hb)
  have B8 := Aside0.mk (blk_below hHeld.2 hb)
  have HB := Aside0.mk (below_step HB.out hb)
  have HW := Aside0.mk (Kd.R_below HW.out hb)
  have HG := Aside0.mk (Kd.R_below HG.out hb)
  have HX := Aside0.mk (IsDisk_below HX.out hb)
  clear hb hHeld HZ
  refine hK.out _ _ (⟨BP.out, B8.out⟩) (fun hHeld => ?_)
  clear hK K
  refine norm_ (a' := ?_) ?_ ?_
  rotate_left
  · show Act.put _ (some 48) _ = _
    simp only [Act.put, List.setIfInBounds_toArray, List.set_cons_zero, List.set_cons_succ, i64_w, i32_w]
    rfl
  refine pure_ (i := 4) (N := some 49) (v := ?_) (a' := ?_) #[true, true, true, true, true] rfl rfl (any_of HT_.out (by kernel_rfl)) (fun _ _ _ h => h) (Or.inl ⟨by rfl, ?_⟩) ?_ ?_
  rotate_left
  · intro w'
    go_simp
    with_reducible rfl
  rotate_left
  · simp only [Act.put, List.setIfInBounds_toArray, List.set_cons_zero, List.set_cons_succ, i64_w, i32_w]
    rfl
  refine done_ (done_of HT_.out (by kernel_rfl)) ?_
  try clear hHeld
  have hx0 : w11.cell? ⟨g8, 0, none⟩ = some (.slice X0 d0.length xc0) := (blk_cell B8.out 0).trans rfl
  have hx1 : w11.cell? ⟨g8, 1, none⟩ = some (.slice X1 d1.length xc1) := (blk_cell B8.out 1).trans rfl
  go_wp2_with fail
  refine (laws_markDisk.calls P2 Q2 (.slice X0 d0.length xc0) (.slice X1 d1.length xc1) d0 d1 1 w _ HB.out HX.out (by decide) NS.out).mono ?_
  rintro e w12 ⟨rfl, _, hb, hk⟩
  clear hx0 hx1
  have BP := Aside0.mk ((hk.2 gp (blk_lt BP.out) (fun h => by have := (HPQ.out gp h).1; have := GPL.out; omega)).trans BP.out)
  have HW := Aside0.mk (Kd.R_step HW.out (w1 := w12) (fun q hq hlt => hk.2 q hlt (fun h => by have := (HPQ.out q h).1; omega)))
  have HG := Aside0.mk (Kd.R_step HG.out (w1 := w12) (fun q hq hlt => hk.2 q hlt (fun h => by have := (HPQ.out q h).2; have := H57.out; omega)))
  have HB := Aside0.mk hb
  clear hb hk HX B8
  go_wp2_with fail
  refine (laws_eqByteS.calls k5 Ag cg ra Aw cw ra true _ (Kd.R_reads' HG.out).2.2 (Kd.R_reads' HG.out).2.1 (Kd.R_reads' HW.out).2.2 (Kd.R_reads' HW.out).2.1 N4.out).mono ?_
  rintro e w13 ⟨rfl, hdr⟩
  have hb := hdr.below
  have BP := Aside0.mk (blk_below BP.out hb)
  have HB := Aside0.mk (below_step HB.out hb)
  have HW := Aside0.mk (Kd.R_below HW.out hb)
  have HG := Aside0.mk (Kd.R_below HG.out hb)
  clear hb hdr
  go_wp2_with fail
  refine (laws_markByteS.calls km (fun k_ => some k_ = (Value.slice Ag ra.length cg).ownBlock) (.slice Ag ra.length cg) ra 1 _ _ w _ HB.out (Kd.R_tight rfl HG.out) N6.out).mono ?_
  rintro e w14 ⟨rfl, hv, hb, hk⟩
  have BP := Aside0.mk ((hk.2 gp (blk_lt BP.out) (fun h => by have := (HG.out.1 gp h.symm).1; have := GPL.out; have := H47.out; omega)).trans BP.out)
  have HW := Aside0.mk (Kd.R_step HW.out (w1 := w14) (fun q hq hlt => hk.2 q hlt (fun h => by have := (HG.out.1 q h.symm).1; have := hq.2; have := H47.out; omega)))
  have HB := Aside0.mk hb
  have HM := Aside0.mk hv
  clear hb hk hv HG
  have hml : (marks ra.length 1).length = ra.length := marks_length _ _
  have HC14 : Aside0 (Kd.C (Kd.int .u8) w14 Ag (marks ra.length 1).length (marks ra.length 1)) := ⟨(Kd.R_reads' HM.out).2.2⟩
  have HL14 : Aside0 ((marks ra.length 1).length ≤ cg) := ⟨by rw [hml]; exact (Kd.R_reads' HM.out).2.1⟩
  have HML := Aside0.mk hml
  clear hml HM
  go_wp2_with fail
  have hheld := laws_heldByteS.calls k7 Ag cg (marks ra.length 1) 1 (1 + (ra.length : Int)) w14 HC14.out HL14.out N7.out
  rw [HML.out] at hheld
  refine hheld.mono ?_
  clear hheld
  rintro e w15 ⟨rfl, hdr⟩
  have hb := hdr.below
  have BP := Aside0.mk (blk_below BP.out hb)
  have HB := Aside0.mk (below_step HB.out hb)
  have HW := Aside0.mk (Kd.R_below HW.out hb)
  have hp0 : w15.cell? ⟨gp, 0, none⟩ = some (.slice A0 l0.length c0) := (blk_cell BP.out 0).trans rfl
  have hp1 : w15.cell? ⟨gp, 1, none⟩ = some (.slice A1 l1.length c1) := (blk_cell BP.out 1).trans rfl
  clear hb hdr HC14 HL14
  have e4 : ((1 + (ra.length : Int)) != (1 + (ra.length : Int))) = false := by simp
  go_wp2_with fail
  refine (laws_toDisk.apart k2 A0 c0 l0 A1 c1 l1 d0 d1 _ (Kd.C_below HR0.out HB.out) HC0.out (Kd.C_below HR1.out HB.out) HC1.out N1.out).mono ?_
  rintro e w16 ⟨v0, v1, P3, Q3, rfl, hd, hb⟩
  clear hp0 hp1
  have BP := Aside0.mk (blk_below BP.out hb)
  have HB := Aside0.mk (below_step HB.out hb)
  have HW := Aside0.mk (Kd.R_below HW.out hb)
  obtain ⟨Z0, zc0, rfl⟩ := Kd.S_slice hd.2.1
  obtain ⟨Z1, zc1, rfl⟩ := Kd.S_slice hd.2.2
  have HZ := Aside0.mk hd
  clear hb hd
  go_wp2_with fail
  refine (impl_ReadSector.calls k4 Z0 zc0 d0 Z1 zc1 d1 x ra rb _ (Kd.S_reads' HZ.out.2.1).2.2 (Kd.S_reads' HZ.out.2.1).2.1 (Kd.S_reads' HZ.out.2.2).2.2 (Kd.S_reads' HZ.out.2.2).2.1 NX.out NW.out N3.out).mono ?_
  rintro e w17 ⟨vh, rfl, hv, hb⟩
  have BP := Aside0.mk (blk_below BP.out hb)
  have HB := Aside0.mk (below_step HB.out hb)
  have HW := Aside0.mk (Kd.R_below HW.out hb)
  obtain ⟨Ah, ch, rfl⟩ := Kd.R_slice hv
  have HH := Aside0.mk hv
  clear hb hv HZ
  go_wp2_with fail
  refine (laws_eqByteS.calls k5 Ah ch ra Aw cw ra true _ (Kd.R_reads' HH.out).2.2 (Kd.R_reads' HH.out).2.1 (Kd.R_reads' HW.out).2.2 (Kd.R_reads' HW.out).2.1 N4.out).mono ?_
  rintro e w18 ⟨rfl, hdr⟩
  have hb := hdr.below
  have BP := Aside0.mk (blk_below BP.out hb)
  have HB := Aside0.mk (below_step HB.out hb)
  clear hb hdr
  go_wp2_with fail
  go_ret
  exact ⟨rfl, HB.out⟩
end Go.Proofs.Ytlopmffdebhpfaa.G

/-! ## DiskP -/
namespace Go.Proofs.Ytlopmffdebhpfaa.Pure
open Go.RowKit Go.Proofs.Ytlopmffdebhpfaa.G Go.Proofs.YtlopmffdebhpfaaW.PrintWords Go.Proofs.YtlopmffdebhpfaaW.PrintLast Go.Proofs.YtlopmffdebhpfaaW.PrintMore

theorem Cv.step {α : Type} {f g : Nat → Option α} {v : α} (hs : ∀ k, g (k + 1) = f k) (h : Cv f v) : Cv g v := Cv.succ h hs
theorem getD_mid {α : Type} (pre r : List α) (x z : α) : (pre ++ x :: r).getD ((pre.length : Int)).toNat z = x := by
  rw [Int.toNat_natCast, List.getD_eq_getElem?_getD, List.getElem?_append_right (Nat.le_refl _), Nat.sub_self]
  rfl
theorem mid_len {α : Type} (pre r : List α) (x : α) : ((pre ++ x :: r).length : Int) = pre.length + r.length + 1 := by simp; omega
theorem snoc_len {α : Type} (pre : List α) (x : α) : (((pre ++ [x]).length : Nat) : Int) = (pre.length : Int) + 1 := by simp
theorem mid_snoc {α : Type} (pre r : List α) (x : α) : pre ++ x :: r = (pre ++ [x]) ++ r := by simp
theorem set_mid {α : Type} (pre r : List α) (x y : α) : (pre ++ x :: r).set ((pre.length : Int)).toNat y = (pre ++ [y]) ++ r := by
  rw [Int.toNat_natCast, List.set_append_right _ _ (Nat.le_refl _), Nat.sub_self, List.set_cons_zero, List.append_assoc, List.singleton_append]
/-- A pending write, as the other package's type. -/
def cv (q : S184) : S185 := ⟨q.f0, q.f1⟩
theorem toSS_l0 : ∀ (r pre : List (List Int)), (∀ l ∈ r, l.length ≤ 281474976710656) → (pre ++ r).length ≤ 11728124029610 →
    Cv (fun k => laws_toByteSS.l0 k (pre ++ r) (pre ++ List.replicate r.length []) (pre.length : Int)) (pre ++ r)
  | [], pre, h, hm => by
    refine Cv.step (fun k => laws_toByteSS.l0.eq_2 _ _ _ k) (Cv.neg (by simp) (Cv.of ?_))
    simp
  | x :: r, pre, h, hm => by
    have h1 := mid_len pre r x
    have h2 : ((pre ++ List.replicate (x :: r).length ([] : List Int)).length : Int) = pre.length + r.length + 1 := by simp; omega
    refine Cv.step (fun k => laws_toByteSS.l0.eq_2 _ _ _ k) (Cv.pos (by omega) (Cv.pos (by omega) ?_))
    rw [show rd_L2 (pre ++ x :: r) (pre.length : Int) = x from getD_mid _ _ _ _]
    refine Cv.bind (toB (h x List.mem_cons_self)) (Cv.pos (by omega) ?_)
    rw [w64 (by omega) (by omega), List.length_cons, List.replicate_succ, set_mid, mid_snoc]
    have ih := toSS_l0 r (pre ++ [x]) (fun l hl => h l (List.mem_cons_of_mem _ hl)) (by simpa using hm)
    rw [snoc_len] at ih
    exact ih
theorem toSS {ls : List (List Int)} (h : ∀ l ∈ ls, l.length ≤ 281474976710656) (hm : ls.length ≤ 11728124029610) : Cv (fun k => laws_toByteSS.f k ls) ls := by
  unfold laws_toByteSS.f
  refine Cv.pos (by omega) (Cv.pos (by omega) ?_)
  have := toSS_l0 ls [] h (by simpa using hm)
  simpa using this
theorem toPS_l0 : ∀ (r pre : List S184), (∀ l ∈ r, l.f1.length ≤ 281474976710656) → (pre ++ r).length ≤ 8796093022208 →
    Cv (fun k => laws_toPendS.l0 k (pre ++ r) (pre.map cv ++ List.replicate r.length z185) (pre.length : Int)) ((pre ++ r).map cv)
  | [], pre, h, hm => by
    refine Cv.step (fun k => laws_toPendS.l0.eq_2 _ _ _ k) (Cv.neg (by simp) (Cv.of ?_))
    simp
  | x :: r, pre, h, hm => by
    have h1 := mid_len pre r x
    have h2 : ((pre.map cv ++ List.replicate (x :: r).length z185).length : Int) = pre.length + r.length + 1 := by simp; omega
    refine Cv.step (fun k => laws_toPendS.l0.eq_2 _ _ _ k) (Cv.pos (by omega) (Cv.pos (by omega) ?_))
    rw [show rd_T184 (pre ++ x :: r) (pre.length : Int) = x from getD_mid _ _ _ _]
    refine Cv.bind (v := (x.f0, x.f1)) ?_ (Cv.pos (by omega) ?_)
    · unfold laws_toPend.f
      exact Cv.bind (toB (h x List.mem_cons_self)) (Cv.of rfl)
    rw [w64 (by omega) (by omega), List.length_cons, List.replicate_succ]
    have hset := set_mid (pre.map cv) (List.replicate r.length z185) z185 (⟨x.f0, x.f1⟩ : S185)
    rw [List.length_map] at hset
    rw [hset, mid_snoc]
    have ih := toPS_l0 r (pre ++ [x]) (fun l hl => h l (List.mem_cons_of_mem _ hl)) (by simpa using hm)
    rw [snoc_len, List.map_append] at ih
    exact ih
theorem toPS {ls : List S184} (h : ∀ l ∈ ls, l.f1.length ≤ 281474976710656) (hm : ls.length ≤ 8796093022208) : Cv (fun k => laws_toPendS.f k ls) (ls.map cv) := by
  unfold laws_toPendS.f
  refine Cv.pos (by omega) (Cv.pos (by omega) ?_)
  have := toPS_l0 ls [] h (by simpa using hm)
  simpa using this
theorem toD {ls : List (List Int)} {ps : List S184} (h : ∀ l ∈ ls, l.length ≤ 281474976710656) (hm : ls.length ≤ 11728124029610) (h' : ∀ l ∈ ps, l.f1.length ≤ 281474976710656) (hm' : ps.length ≤ 8796093022208) : Cv (fun k => laws_toDisk.f k ls ps) (ls, ps.map cv) := by
  unfold laws_toDisk.f
  exact Cv.bind (toSS h hm) (Cv.bind (toPS h' hm') (Cv.of rfl))

/-! ### sizes -/
def totP4 : List S184 → Nat
  | [] => 0
  | p :: r => p.f1.length + totP4 r
theorem szSS_l0 : ∀ (r pre : List (List Int)) (a : Int), 0 ≤ a → a ≤ 1048576 → (∀ l ∈ r, l.length ≤ 9223372036854775807) → (pre ++ r).length ≤ 9223372036854775806 →
    ∃ s, Cv (fun k => laws_szByteSS.l0 k (pre ++ r) a (pre.length : Int)) s ∧ s ≤ 1048576 ∧ (0 ≤ s → (totL r : Int) + s = a)
  | [], pre, a, h0, ha, hr, hm => ⟨a, Cv.step (fun k => laws_szByteSS.l0.eq_2 _ _ _ k) (Cv.neg (by simp) (Cv.of rfl)), ha, fun _ => by simp [totL]⟩
  | x :: r, pre, a, h0, ha, hr, hm => by
    have h1 := mid_len pre r x
    have hx := hr x List.mem_cons_self
    have hw : wrap64 (a - (x.length : Int)) = a - x.length := w64 (by omega) (by omega)
    by_cases hneg : a - (x.length : Int) < 0
    · refine ⟨-1, Cv.step (fun k => laws_szByteSS.l0.eq_2 _ _ _ k) (Cv.pos (by omega) (Cv.pos (by omega) ?_)), by omega, fun h => by omega⟩
      rw [show rd_L2 (pre ++ x :: r) (pre.length : Int) = x from getD_mid _ _ _ _]
      refine Cv.bind (v := -1) (Cv.of ?_) (Cv.pos (by decide) (Cv.of rfl))
      unfold laws_szByteS.f
      rw [hw, if_pos hneg]
    · obtain ⟨s, hs, hs1, hs2⟩ := szSS_l0 r (pre ++ [x]) (a - x.length) (by omega) (by omega) (fun l hl => hr l (List.mem_cons_of_mem _ hl)) (by simpa using hm)
      refine ⟨s, Cv.step (fun k => laws_szByteSS.l0.eq_2 _ _ _ k) (Cv.pos (by omega) (Cv.pos (by omega) ?_)), hs1, fun h => by have := hs2 h; simp only [totL]; omega⟩
      rw [show rd_L2 (pre ++ x :: r) (pre.length : Int) = x from getD_mid _ _ _ _]
      refine Cv.bind (v := a - (x.length : Int)) (Cv.of ?_) (Cv.neg hneg ?_)
      · unfold laws_szByteS.f
        rw [hw, if_neg hneg]
      · rw [w64 (by omega) (by omega)]
        rw [snoc_len, ← mid_snoc] at hs
        exact hs
theorem szSS {ls : List (List Int)} {a : Int} (h0 : 0 ≤ a) (ha : a ≤ 1048576) (hr : ∀ l ∈ ls, l.length ≤ 9223372036854775807) (hm : ls.length ≤ 9223372036854775807) :
    ∃ s, Cv (fun k => laws_szByteSS.f k ls a) s ∧ s ≤ 1048576 ∧ (0 ≤ s → (totL ls : Int) + ls.length + s = a) := by
  have hw : wrap64 (a - (ls.length : Int)) = a - ls.length := w64 (by omega) (by omega)
  by_cases hneg : a - (ls.length : Int) < 0
  · refine ⟨-1, ?_, by omega, fun h => by omega⟩
    unfold laws_szByteSS.f
    rw [hw]
    exact Cv.pos hneg (Cv.of rfl)
  · obtain ⟨s, hs, h1, h2⟩ := szSS_l0 ls [] (a - ls.length) (by omega) (by omega) hr (by simp; omega)
    refine ⟨s, ?_, h1, fun h => by have := h2 h; omega⟩
    unfold laws_szByteSS.f
    rw [hw]
    exact Cv.neg hneg hs
theorem szPS_l0 : ∀ (r pre : List S184) (a : Int), 0 ≤ a → a ≤ 1048576 → (∀ l ∈ r, l.f1.length ≤ 9223372036854775807) → (pre ++ r).length ≤ 9223372036854775806 →
    ∃ s, Cv (fun k => laws_szPendS.l0 k (pre ++ r) a (pre.length : Int)) s ∧ s ≤ 1048576 ∧ (0 ≤ s → (totP4 r : Int) + s = a)
  | [], pre, a, h0, ha, hr, hm => ⟨a, Cv.step (fun k => laws_szPendS.l0.eq_2 _ _ _ k) (Cv.neg (by simp) (Cv.of rfl)), ha, fun _ => by simp [totP4]⟩
  | x :: r, pre, a, h0, ha, hr, hm => by
    have h1 := mid_len pre r x
    have hx := hr x List.mem_cons_self
    have hw : wrap64 (a - (x.f1.length : Int)) = a - x.f1.length := w64 (by omega) (by omega)
    by_cases hneg : a - (x.f1.length : Int) < 0
    · refine ⟨-1, Cv.step (fun k => laws_szPendS.l0.eq_2 _ _ _ k) (Cv.pos (by omega) (Cv.pos (by omega) ?_)), by omega, fun h => by omega⟩
      rw [show rd_T184 (pre ++ x :: r) (pre.length : Int) = x from getD_mid _ _ _ _]
      refine Cv.bind (v := -1) (Cv.of ?_) (Cv.pos (by decide) (Cv.of rfl))
      unfold laws_szPend.f laws_szByteS.f
      rw [hw, if_pos hneg, Option.bind_some, if_pos (by decide)]
    · obtain ⟨s, hs, hs1, hs2⟩ := szPS_l0 r (pre ++ [x]) (a - x.f1.length) (by omega) (by omega) (fun l hl => hr l (List.mem_cons_of_mem _ hl)) (by simpa using hm)
      refine ⟨s, Cv.step (fun k => laws_szPendS.l0.eq_2 _ _ _ k) (Cv.pos (by omega) (Cv.pos (by omega) ?_)), hs1, fun h => by have := hs2 h; simp only [totP4]; omega⟩
      rw [show rd_T184 (pre ++ x :: r) (pre.length : Int) = x from getD_mid _ _ _ _]
      refine Cv.bind (v := a - (x.f1.length : Int)) (Cv.of ?_) (Cv.neg hneg ?_)
      · unfold laws_szPend.f laws_szByteS.f
        rw [hw, if_neg hneg, Option.bind_some, if_neg hneg]
      · rw [w64 (by omega) (by omega)]
        rw [snoc_len, ← mid_snoc] at hs
        exact hs
theorem szPS {ls : List S184} {a : Int} (h0 : 0 ≤ a) (ha : a ≤ 1048576) (hr : ∀ l ∈ ls, l.f1.length ≤ 9223372036854775807) (hm : ls.length ≤ 9223372036854775807) :
    ∃ s, Cv (fun k => laws_szPendS.f k ls a) s ∧ s ≤ 1048576 ∧ (0 ≤ s → (totP4 ls : Int) + ls.length + s = a) := by
  have hw : wrap64 (a - (ls.length : Int)) = a - ls.length := w64 (by omega) (by omega)
  by_cases hneg : a - (ls.length : Int) < 0
  · refine ⟨-1, ?_, by omega, fun h => by omega⟩
    unfold laws_szPendS.f
    rw [hw]
    exact Cv.pos hneg (Cv.of rfl)
  · obtain ⟨s, hs, h1, h2⟩ := szPS_l0 ls [] (a - ls.length) (by omega) (by omega) hr (by simp; omega)
    refine ⟨s, ?_, h1, fun h => by have := h2 h; omega⟩
    unfold laws_szPendS.f
    rw [hw]
    exact Cv.neg hneg hs
theorem szD {ls : List (List Int)} {ps : List S184} {a : Int} (h0 : 0 ≤ a) (ha : a ≤ 1048576) (hr : ∀ l ∈ ls, l.length ≤ 9223372036854775807) (hm : ls.length ≤ 9223372036854775807) (hr' : ∀ l ∈ ps, l.f1.length ≤ 9223372036854775807) (hm' : ps.length ≤ 9223372036854775807) :
    ∃ s, Cv (fun k => laws_szDisk.f k ls ps a) s ∧ s ≤ 1048576 ∧ (0 ≤ s → (totL ls : Int) + ls.length + (totP4 ps + ps.length) + s = a) := by
  obtain ⟨s, hs, h1, h2⟩ := szSS h0 ha hr hm
  by_cases hneg : s < 0
  · refine ⟨-1, ?_, by omega, fun h => by omega⟩
    unfold laws_szDisk.f
    exact Cv.bind hs (Cv.pos hneg (Cv.of rfl))
  · obtain ⟨t, ht, h3, h4⟩ := szPS (a := s) (by omega) h1 hr' hm'
    by_cases hneg2 : t < 0
    · refine ⟨-1, ?_, by omega, fun h => by omega⟩
      unfold laws_szDisk.f
      exact Cv.bind hs (Cv.neg hneg (Cv.bind ht (Cv.pos hneg2 (Cv.of rfl))))
    · refine ⟨t, ?_, h3, fun h => by have := h2 (by omega); have := h4 h; omega⟩
      unfold laws_szDisk.f
      exact Cv.bind hs (Cv.neg hneg (Cv.bind ht (Cv.neg hneg2 (Cv.of rfl))))
theorem le_totL {l : List Int} : ∀ {ls : List (List Int)}, l ∈ ls → l.length ≤ totL ls
  | x :: r, h => by
    rcases List.mem_cons.1 h with rfl | h
    · simp [totL]
    · have := le_totL h
      simp only [totL]
      omega
theorem le_totP4 {q : S184} : ∀ {ls : List S184}, q ∈ ls → q.f1.length ≤ totP4 ls
  | x :: r, h => by
    rcases List.mem_cons.1 h with rfl | h
    · simp [totP4]
    · have := le_totP4 h
      simp only [totP4]
      omega
theorem totP_cv : ∀ (ps : List S184), totP (ps.map cv) = totP4 ps + ps.length
  | [] => rfl
  | p :: r => by
    simp only [List.map_cons, totP, totP4, totP_cv r, cv, List.length_cons]
    omega

/-! ### comparisons -/
theorem eqSS_l0 : ∀ (r pre : List (List Int)), (∀ l ∈ r, l.length ≤ 9223372036854775806) → (pre ++ r).length ≤ 9223372036854775806 → Cv (fun k => laws_eqByteSS.l0 k (pre ++ r) (pre ++ r) (pre.length : Int)) true
  | [], pre, h, hm => Cv.step (fun k => laws_eqByteSS.l0.eq_2 _ _ _ k) (Cv.neg (by simp) (Cv.of rfl))
  | x :: r, pre, h, hm => by
    have h1 := mid_len pre r x
    refine Cv.step (fun k => laws_eqByteSS.l0.eq_2 _ _ _ k) (Cv.pos (by omega) (Cv.pos (by omega) (Cv.pos (by omega) ?_)))
    rw [show rd_L2 (pre ++ x :: r) (pre.length : Int) = x from getD_mid _ _ _ _]
    refine Cv.bind (eqB (h x List.mem_cons_self)) (Cv.pos (decide_eq_true rfl) ?_)
    rw [w64 (by omega) (by omega), mid_snoc, ← snoc_len pre x]
    exact eqSS_l0 r (pre ++ [x]) (fun l hl => h l (List.mem_cons_of_mem _ hl)) (by simpa using hm)
theorem eqPS_l0 : ∀ (r pre : List S185), (∀ l ∈ r, l.f1.length ≤ 9223372036854775806) → (pre ++ r).length ≤ 9223372036854775806 → Cv (fun k => laws_eqPendS.l0 k (pre ++ r) (pre ++ r) (pre.length : Int)) true
  | [], pre, h, hm => Cv.step (fun k => laws_eqPendS.l0.eq_2 _ _ _ k) (Cv.neg (by simp) (Cv.of rfl))
  | x :: r, pre, h, hm => by
    have h1 := mid_len pre r x
    refine Cv.step (fun k => laws_eqPendS.l0.eq_2 _ _ _ k) (Cv.pos (by omega) (Cv.pos (by omega) (Cv.pos (by omega) ?_)))
    rw [show rd_T185 (pre ++ x :: r) (pre.length : Int) = x from getD_mid _ _ _ _]
    refine Cv.bind (v := true) ?_ (Cv.pos rfl ?_)
    · unfold laws_eqPend.f
      exact Cv.pos rfl (Cv.bind (eqB (h x List.mem_cons_self)) (Cv.pos (decide_eq_true rfl) (Cv.of rfl)))
    rw [w64 (by omega) (by omega), mid_snoc, ← snoc_len pre x]
    exact eqPS_l0 r (pre ++ [x]) (fun l hl => h l (List.mem_cons_of_mem _ hl)) (by simpa using hm)
theorem eqD {ls : List (List Int)} {ps : List S185} (h : ∀ l ∈ ls, l.length ≤ 9223372036854775806) (hm : ls.length ≤ 9223372036854775806) (h' : ∀ l ∈ ps, l.f1.length ≤ 9223372036854775806) (hm' : ps.length ≤ 9223372036854775806) : Cv (fun k => laws_eqDisk.f k ls ps ls ps) true := by
  unfold laws_eqDisk.f
  refine Cv.bind (v := true) ?_ (Cv.pos rfl (Cv.bind (v := true) ?_ (Cv.pos rfl (Cv.of rfl))))
  · unfold laws_eqByteSS.f
    exact Cv.pos rfl (eqSS_l0 ls [] h (by simpa using hm))
  · unfold laws_eqPendS.f
    exact Cv.pos rfl (eqPS_l0 ps [] h' (by simpa using hm'))

/-! ### valid disks -/
def okP (n : Nat) (p : S185) : Prop := 0 ≤ p.f0 ∧ p.f0 < (n : Int) ∧ p.f1.length = 64
instance (n : Nat) (p : S185) : Decidable (okP n p) := by unfold okP; exact inferInstance
def okDisk (safe : List (List Int)) (ps : List S185) : Prop := 1 ≤ safe.length ∧ safe.length ≤ 4096 ∧ ps.length ≤ 5000 ∧ (∀ l ∈ safe, l.length = 64) ∧ ∀ p ∈ ps, okP safe.length p
instance (safe : List (List Int)) (ps : List S185) : Decidable (okDisk safe ps) := by unfold okDisk; exact inferInstance
theorem impl_ok_l1 (safe : List (List Int)) (ps : List S185) : ∀ (r pre : List S185), (pre ++ r).length ≤ 9223372036854775806 → Cv (fun k => impl_DiskOk.l1 k (pre ++ r) ((pre ++ r).length : Int) (pre.length : Int) safe ps) (decide (∀ p ∈ r, okP safe.length p))
  | [], pre, hm => Cv.step (fun k => impl_DiskOk.l1.eq_2 _ _ _ _ _ k) (Cv.neg (by simp) (Cv.of (by simp)))
  | x :: r, pre, hm => by
    have h1 := mid_len pre r x
    refine Cv.step (fun k => impl_DiskOk.l1.eq_2 _ _ _ _ _ k) (Cv.pos (by omega) (Cv.pos (by omega) (Cv.pos (by omega) ?_)))
    rw [show rd_T185 (pre ++ x :: r) (pre.length : Int) = x from getD_mid _ _ _ _]
    by_cases h : okP safe.length x
    · have hh := h
      unfold okP at hh
      refine Cv.neg (by omega) (Cv.neg (by omega) (Cv.pos (by omega) ?_))
      have ih := impl_ok_l1 safe ps r (pre ++ [x]) (by simpa using hm)
      rw [← mid_snoc, snoc_len] at ih
      rw [w64 (by omega) (by omega)]
      have e : decide (∀ p ∈ x :: r, okP safe.length p) = decide (∀ p ∈ r, okP safe.length p) := by simp [h]
      rw [e]
      exact ih
    · rw [decide_eq_false (fun hall => h (hall x List.mem_cons_self))]
      unfold okP at h
      by_cases g1 : x.f0 < 0
      · exact Cv.pos g1 (Cv.of rfl)
      · by_cases g2 : x.f0 ≥ (safe.length : Int)
        · exact Cv.neg g1 (Cv.pos g2 (Cv.of rfl))
        · exact Cv.neg g1 (Cv.neg g2 (Cv.neg (by omega) (Cv.of rfl)))
theorem impl_ok_l0 (safe : List (List Int)) (ps : List S185) (hp : ps.length ≤ 9223372036854775806) : ∀ (r pre : List (List Int)), (pre ++ r).length ≤ 9223372036854775806 → Cv (fun k => impl_DiskOk.l0 k (pre ++ r) ((pre ++ r).length : Int) (pre.length : Int) safe ps) (decide ((∀ l ∈ r, l.length = 64) ∧ ∀ p ∈ ps, okP safe.length p))
  | [], pre, hm => by
    refine Cv.step (fun k => impl_DiskOk.l0.eq_2 _ _ _ _ _ k) (Cv.neg (by simp) ?_)
    have h := impl_ok_l1 safe ps ps [] (by simpa using hp)
    simpa using h
  | x :: r, pre, hm => by
    have h1 := mid_len pre r x
    refine Cv.step (fun k => impl_DiskOk.l0.eq_2 _ _ _ _ _ k) (Cv.pos (by omega) (Cv.pos (by omega) (Cv.pos (by omega) ?_)))
    rw [show rd_L2 (pre ++ x :: r) (pre.length : Int) = x from getD_mid _ _ _ _]
    by_cases h : x.length = 64
    · refine Cv.pos (by omega) ?_
      have ih := impl_ok_l0 safe ps hp r (pre ++ [x]) (by simpa using hm)
      rw [← mid_snoc, snoc_len] at ih
      rw [w64 (by omega) (by omega)]
      have e : decide ((∀ l ∈ x :: r, l.length = 64) ∧ ∀ p ∈ ps, okP safe.length p) = decide ((∀ l ∈ r, l.length = 64) ∧ ∀ p ∈ ps, okP safe.length p) := by simp [h]
      rw [e]
      exact ih
    · rw [decide_eq_false (fun hall => h (hall.1 x List.mem_cons_self))]
      exact Cv.neg (by omega) (Cv.of rfl)
theorem impl_ok {safe : List (List Int)} {ps : List S185} : Cv (fun k => impl_DiskOk.f k safe ps) (decide (okDisk safe ps)) := by
  have hj : ∀ (c : Bool), c = true → Cv (fun k => impl_DiskOk.j0 k c safe ps) false := fun c hc => Cv.step (fun k => impl_DiskOk.j0.eq_2 _ _ _ k) (Cv.pos hc (Cv.of rfl))
  unfold impl_DiskOk.f
  by_cases h1 : (safe.length : Int) < 1
  · rw [decide_eq_false (p := okDisk safe ps) (fun h => by unfold okDisk at h; omega)]
    exact Cv.pos h1 (hj _ rfl)
  refine Cv.neg h1 ?_
  by_cases h2 : (safe.length : Int) > 4096
  · rw [decide_eq_false (p := okDisk safe ps) (fun h => by unfold okDisk at h; omega)]
    exact Cv.pos h2 (hj _ rfl)
  refine Cv.neg h2 ?_
  by_cases h3 : (ps.length : Int) > 5000
  · rw [decide_eq_false (p := okDisk safe ps) (fun h => by unfold okDisk at h; omega)]
    exact hj _ (decide_eq_true h3)
  · rw [show decide ((ps.length : Int) > 5000) = false from decide_eq_false h3]
    refine Cv.step (fun k => impl_DiskOk.j0.eq_2 _ _ _ k) (Cv.neg (by decide) ?_)
    have h := impl_ok_l0 safe ps (by omega) safe [] (by simp; omega)
    have e : decide (okDisk safe ps) = decide ((∀ l ∈ safe, l.length = 64) ∧ ∀ p ∈ ps, okP safe.length p) := by
      have g1 : 1 ≤ safe.length := by omega
      have g2 : safe.length ≤ 4096 := by omega
      have g3 : ps.length ≤ 5000 := by omega
      unfold okDisk
      simp [g1, g2, g3]
    rw [e]
    exact h
theorem spec_ok_l1 (safe : List (List Int)) : ∀ (r pre : List S185), (pre ++ r).length ≤ 9223372036854775806 → Cv (fun k => spec_DiskOk.l1 k (safe.length : Int) (pre.length : Int) safe (pre ++ r)) (decide (∀ p ∈ r, okP safe.length p))
  | [], pre, hm => Cv.step (fun k => spec_DiskOk.l1.eq_2 _ _ _ _ k) (Cv.neg (by simp) (Cv.of (by simp)))
  | x :: r, pre, hm => by
    have h1 := mid_len pre r x
    refine Cv.step (fun k => spec_DiskOk.l1.eq_2 _ _ _ _ k) (Cv.pos (by omega) (Cv.pos (by omega) ?_))
    rw [show rd_T185 (pre ++ x :: r) (pre.length : Int) = x from getD_mid _ _ _ _]
    by_cases h : okP safe.length x
    · have hh := h
      unfold okP at hh
      refine Cv.neg (by omega) (Cv.neg (by omega) (Cv.pos (by omega) ?_))
      have ih := spec_ok_l1 safe r (pre ++ [x]) (by simpa using hm)
      rw [← mid_snoc, snoc_len] at ih
      rw [w64 (by omega) (by omega)]
      have e : decide (∀ p ∈ x :: r, okP safe.length p) = decide (∀ p ∈ r, okP safe.length p) := by simp [h]
      rw [e]
      exact ih
    · rw [decide_eq_false (fun hall => h (hall x List.mem_cons_self))]
      unfold okP at h
      by_cases g1 : x.f0 < 0
      · exact Cv.pos g1 (Cv.of rfl)
      · by_cases g2 : x.f0 ≥ (safe.length : Int)
        · exact Cv.neg g1 (Cv.pos g2 (Cv.of rfl))
        · exact Cv.neg g1 (Cv.neg g2 (Cv.neg (by omega) (Cv.of rfl)))
theorem spec_ok_l0 (ps : List S185) (hp : ps.length ≤ 9223372036854775806) : ∀ (r pre : List (List Int)), (pre ++ r).length ≤ 9223372036854775806 → Cv (fun k => spec_DiskOk.l0 k ((pre ++ r).length : Int) (pre.length : Int) (pre ++ r) ps) (decide ((∀ l ∈ r, l.length = 64) ∧ ∀ p ∈ ps, okP (pre ++ r).length p))
  | [], pre, hm => by
    refine Cv.step (fun k => spec_DiskOk.l0.eq_2 _ _ _ _ k) (Cv.neg (by simp) ?_)
    have h := spec_ok_l1 (pre ++ []) ps [] (by simpa using hp)
    simpa using h
  | x :: r, pre, hm => by
    have h1 := mid_len pre r x
    refine Cv.step (fun k => spec_DiskOk.l0.eq_2 _ _ _ _ k) (Cv.pos (by omega) (Cv.pos (by omega) (Cv.pos (by omega) ?_)))
    rw [show rd_L2 (pre ++ x :: r) (pre.length : Int) = x from getD_mid _ _ _ _]
    by_cases h : x.length = 64
    · refine Cv.pos (by omega) ?_
      have ih := spec_ok_l0 ps hp r (pre ++ [x]) (by simpa using hm)
      rw [← mid_snoc, snoc_len] at ih
      rw [w64 (by omega) (by omega)]
      have e : decide ((∀ l ∈ x :: r, l.length = 64) ∧ ∀ p ∈ ps, okP (pre ++ x :: r).length p) = decide ((∀ l ∈ r, l.length = 64) ∧ ∀ p ∈ ps, okP (pre ++ x :: r).length p) := by simp [h]
      rw [e]
      exact ih
    · rw [decide_eq_false (fun hall => h (hall.1 x List.mem_cons_self))]
      exact Cv.neg (by omega) (Cv.of rfl)
theorem spec_ok {safe : List (List Int)} {ps : List S185} : Cv (fun k => spec_DiskOk.f k safe ps) (decide (okDisk safe ps)) := by
  have hj : ∀ (c : Bool), c = true → Cv (fun k => spec_DiskOk.j0 k (safe.length : Int) c safe ps) false := fun c hc => Cv.step (fun k => spec_DiskOk.j0.eq_2 _ _ _ _ k) (Cv.pos hc (Cv.of rfl))
  unfold spec_DiskOk.f
  by_cases h1 : (safe.length : Int) < 1
  · rw [decide_eq_false (p := okDisk safe ps) (fun h => by unfold okDisk at h; omega)]
    exact Cv.pos h1 (hj _ rfl)
  refine Cv.neg h1 ?_
  by_cases h2 : (safe.length : Int) > 4096
  · rw [decide_eq_false (p := okDisk safe ps) (fun h => by unfold okDisk at h; omega)]
    exact Cv.pos h2 (hj _ rfl)
  refine Cv.neg h2 ?_
  by_cases h3 : (ps.length : Int) > 5000
  · rw [decide_eq_false (p := okDisk safe ps) (fun h => by unfold okDisk at h; omega)]
    exact hj _ (decide_eq_true h3)
  · rw [show decide ((ps.length : Int) > 5000) = false from decide_eq_false h3]
    refine Cv.step (fun k => spec_DiskOk.j0.eq_2 _ _ _ _ k) (Cv.neg (by decide) ?_)
    have h := spec_ok_l0 ps (by omega) safe [] (by simp; omega)
    have e : decide (okDisk safe ps) = decide ((∀ l ∈ safe, l.length = 64) ∧ ∀ p ∈ ps, okP safe.length p) := by
      have g1 : 1 ≤ safe.length := by omega
      have g2 : safe.length ≤ 4096 := by omega
      have g3 : ps.length ≤ 5000 := by omega
      unfold okDisk
      simp [g1, g2, g3]
    rw [e]
    exact h

/-! ### what sectors hold now -/
def nowL (safe : List (List Int)) (ps : List S185) : List (List Int) := ps.foldl (fun s p => s.set p.f0.toNat p.f1) safe
theorem nowL_length : ∀ (ps : List S185) (safe : List (List Int)), (nowL safe ps).length = safe.length
  | [], _ => rfl
  | p :: r, safe => by
    have := nowL_length r (safe.set p.f0.toNat p.f1)
    simpa [nowL] using this
theorem nowL_snoc (safe : List (List Int)) (ps : List S185) (p : S185) : nowL safe (ps ++ [p]) = (nowL safe ps).set p.f0.toNat p.f1 := by
  unfold nowL
  rw [List.foldl_append]
  rfl
theorem spec_now_l0 (s0 : List (List Int)) (n : Nat) (hn : n ≤ 4096) : ∀ (r pre : List S185) (acc : List (List Int)), (pre ++ r).length ≤ 9223372036854775806 → acc.length = n → (∀ p ∈ r, okP n p) → Cv (fun k => spec_l1Now.l0 k acc (pre.length : Int) s0 (pre ++ r)) (nowL acc r)
  | [], pre, acc, hm, ha, hr => Cv.step (fun k => spec_l1Now.l0.eq_2 _ _ _ _ k) (Cv.neg (by simp) (Cv.of rfl))
  | x :: r, pre, acc, hm, ha, hr => by
    have h1 := mid_len pre r x
    have hx := hr x List.mem_cons_self
    unfold okP at hx
    refine Cv.step (fun k => spec_l1Now.l0.eq_2 _ _ _ _ k) (Cv.pos (by omega) (Cv.pos (by omega) ?_))
    rw [show rd_T185 (pre ++ x :: r) (pre.length : Int) = x from getD_mid _ _ _ _]
    refine Cv.pos (by omega) (Cv.pos (by omega) ?_)
    have ih := spec_now_l0 s0 n hn r (pre ++ [x]) (acc.set x.f0.toNat x.f1) (by simpa using hm) (by simpa using ha) (fun p hp => hr p (List.mem_cons_of_mem _ hp))
    rw [← mid_snoc, snoc_len] at ih
    rw [w64 (by omega) (by omega)]
    exact ih
theorem spec_now {safe : List (List Int)} {ps : List S185} (h : okDisk safe ps) : Cv (fun k => spec_l1Now.f k safe ps) (nowL safe ps) := by
  obtain ⟨h1, h2, h3, h4, h5⟩ := h
  unfold spec_l1Now.f
  refine Cv.bind (Cv.of rfl) (Cv.pos (by simp; omega) ?_)
  exact spec_now_l0 safe safe.length h2 ps [] ([] ++ safe) (by simp; omega) (by simp) h5
theorem lastM_range : ∀ (n : Nat) (ps : List S185), ps.length = n → ∀ y i, lastM ps y = some i → 0 ≤ i ∧ i < (ps.length : Int)
  | 0, ps, hn, y, i, h => by
    obtain rfl := List.eq_nil_of_length_eq_zero hn
    rw [lastM_nil] at h
    cases h
  | n + 1, ps, hn, y, i, h => by
    obtain ⟨qs, q, rfl⟩ : ∃ qs q, ps = qs ++ [q] := by
      rcases List.eq_nil_or_concat ps with rfl | ⟨qs, q, e⟩
      · simp at hn
      · exact ⟨qs, q, by simpa using e⟩
    have hl : qs.length = n := by simpa using hn
    rw [lastM_snoc] at h
    dsimp only at h
    by_cases hy : y = q.f0
    · rw [if_pos hy] at h
      obtain rfl := Option.some.inj h
      simp
      omega
    · rw [if_neg hy] at h
      have := lastM_range n qs hl y i h
      simp
      omega
theorem now_last {safe : List (List Int)} : ∀ (n : Nat) (ps : List S185), ps.length = n → (∀ p ∈ ps, okP safe.length p) → ∀ y, 0 ≤ y → y < (safe.length : Int) →
    rd_L2 (nowL safe ps) y = (match lastM ps y with | some i => (rd_T185 ps i).f1 | none => rd_L2 safe y)
  | 0, ps, hn, hp, y, h0, h1 => by
    obtain rfl := List.eq_nil_of_length_eq_zero hn
    rw [lastM_nil]
    rfl
  | n + 1, ps, hn, hp, y, h0, h1 => by
    obtain ⟨qs, q, rfl⟩ : ∃ qs q, ps = qs ++ [q] := by
      rcases List.eq_nil_or_concat ps with rfl | ⟨qs, q, e⟩
      · simp at hn
      · exact ⟨qs, q, by simpa using e⟩
    have hl : qs.length = n := by simpa using hn
    have hq := hp q (by simp)
    unfold okP at hq
    have ih := now_last n qs hl (fun p h => hp p (by simp [h])) y h0 h1
    have hnl := nowL_length qs safe
    rw [lastM_snoc, nowL_snoc]
    dsimp only
    by_cases hy : y = q.f0
    · rw [if_pos hy]
      subst hy
      dsimp only
      have e1 : rd_T185 (qs ++ [q]) (qs.length : Int) = q := by
        have := getD_mid qs [] q z185
        exact this
      rw [e1]
      unfold rd_L2
      rw [List.getD_eq_getElem?_getD, List.getElem?_set_self (by omega)]
      rfl
    · rw [if_neg hy]
      have e2 : rd_L2 ((nowL safe qs).set q.f0.toNat q.f1) y = rd_L2 (nowL safe qs) y := by
        unfold rd_L2
        rw [List.getD_eq_getElem?_getD, List.getElem?_set_ne (by omega), List.getD_eq_getElem?_getD]
      rw [e2, ih]
      cases hm : lastM qs y with
      | none => rfl
      | some i =>
        have hi := lastM_range n qs hl y i hm
        dsimp only
        congr 1
        unfold rd_T185
        rw [List.getD_eq_getElem?_getD, List.getD_eq_getElem?_getD, List.getElem?_append_left (by omega)]

/-! ### ReadSector -/
def rsV (safe : List (List Int)) (ps : List S185) (x : Int) : List Int × Bool := if okDisk safe ps ∧ 0 ≤ x ∧ x < (safe.length : Int) then (rd_L2 (nowL safe ps) x, true) else ([], false)
theorem nowL_len : ∀ (ps : List S185) (safe : List (List Int)), (∀ l ∈ safe, l.length = 64) → (∀ p ∈ ps, p.f1.length = 64) → ∀ l ∈ nowL safe ps, l.length = 64
  | [], _, h, _ => h
  | p :: r, safe, h, hp => by
    refine nowL_len r (safe.set p.f0.toNat p.f1) (fun l hl => ?_) (fun q hq => hp q (List.mem_cons_of_mem _ hq))
    rcases List.mem_or_eq_of_mem_set hl with h1 | h1
    · exact h l h1
    · rw [h1]; exact hp p List.mem_cons_self
theorem rd_L2_mem {ls : List (List Int)} {x : Int} (h0 : 0 ≤ x) (h1 : x < (ls.length : Int)) : rd_L2 ls x ∈ ls := by
  unfold rd_L2
  rw [List.getD_eq_getElem?_getD, List.getElem?_eq_getElem (by omega)]
  exact List.getElem_mem _
theorem rsV_len (safe : List (List Int)) (ps : List S185) (x : Int) : (rsV safe ps x).1.length ≤ 64 := by
  unfold rsV
  split
  · rename_i h
    obtain ⟨⟨h1, h2, h3, h4, h5⟩, h6, h7⟩ := h
    exact Nat.le_of_eq (nowL_len ps safe h4 (fun p hp => (h5 p hp).2.2) _ (rd_L2_mem h6 (by rw [nowL_length]; exact h7)))
  · simp
theorem spec_rs {safe : List (List Int)} {ps : List S185} {x : Int} : Cv (fun k => spec_ReadSector.f k safe ps x) (rsV safe ps x) := by
  have hj : ∀ (c : Bool), c = true → Cv (fun k => spec_ReadSector.j0 k x c safe ps) ([], false) := fun c hc => Cv.step (fun k => spec_ReadSector.j0.eq_2 _ _ _ _ k) (Cv.pos hc (Cv.of rfl))
  unfold spec_ReadSector.f
  refine Cv.bind spec_ok ?_
  by_cases hok : okDisk safe ps
  case neg =>
    have e : rsV safe ps x = ([], false) := if_neg (fun h => hok h.1)
    rw [e]
    exact Cv.neg (by rw [decide_eq_true_eq]; exact hok) (hj _ rfl)
  refine Cv.pos (decide_eq_true hok) ?_
  by_cases h0 : x < 0
  · have e : rsV safe ps x = ([], false) := if_neg (fun h => by omega)
    rw [e]
    exact Cv.pos h0 (hj _ rfl)
  refine Cv.neg h0 ?_
  by_cases h1 : x ≥ (safe.length : Int)
  · have e : rsV safe ps x = ([], false) := if_neg (fun h => by omega)
    rw [e]
    exact hj _ (decide_eq_true h1)
  have e : rsV safe ps x = (rd_L2 (nowL safe ps) x, true) := if_pos ⟨hok, by omega, by omega⟩
  have hlen := rsV_len safe ps x
  rw [e] at hlen ⊢
  rw [show decide (x ≥ (safe.length : Int)) = false from decide_eq_false h1]
  refine Cv.step (fun k => spec_ReadSector.j0.eq_2 _ _ _ _ k) (Cv.neg (by decide) (Cv.bind (spec_now hok) (Cv.pos (by omega) (Cv.pos (by rw [nowL_length]; omega) (Cv.bind (v := rd_L2 (nowL safe ps) x) (Cv.of ?_) (Cv.of rfl))))))
  unfold spec_l1Bytes.f
  rw [Option.bind_some, if_pos (by simp only [List.length_nil] at *; omega)]
  rfl
theorem impl_rs {safe : List (List Int)} {ps : List S185} {x : Int} : Cv (fun k => impl_ReadSector.f k safe ps x) (rsV safe ps x) := by
  unfold impl_ReadSector.f
  refine Cv.bind impl_ok ?_
  by_cases hok : okDisk safe ps
  case neg =>
    have e : rsV safe ps x = ([], false) := if_neg (fun h => hok h.1)
    rw [e]
    exact Cv.neg (by rw [decide_eq_true_eq]; exact hok) (Cv.of rfl)
  refine Cv.pos (decide_eq_true hok) ?_
  by_cases hr : 0 ≤ x ∧ x < (safe.length : Int)
  case neg =>
    have e : rsV safe ps x = ([], false) := if_neg (fun h => hr h.2)
    rw [e]
    refine Cv.bind (v := ([], false)) (Cv.of ?_) (Cv.bind (v := []) (Cv.of ?_) (Cv.of rfl))
    · unfold impl_sector.f
      rw [if_neg hr]
    · unfold slices_Clone_byte_byte.f
      rw [if_pos (by simp)]
  have e : rsV safe ps x = (rd_L2 (nowL safe ps) x, true) := if_pos ⟨hok, hr⟩
  have hlen := rsV_len safe ps x
  rw [e] at hlen ⊢
  refine Cv.bind (v := (rd_L2 (nowL safe ps) x, true)) (Cv.of ?_) (Cv.bind (v := rd_L2 (nowL safe ps) x) (Cv.of ?_) (Cv.of rfl))
  · unfold impl_sector.f
    rw [if_pos hr]
    have hl := now_last (safe := safe) ps.length ps rfl hok.2.2.2.2 x hr.1 hr.2
    cases hm : lastM ps x with
    | none =>
      rw [hm] at hl
      dsimp only at hl ⊢
      rw [hl]
    | some i =>
      rw [hm] at hl
      dsimp only at hl ⊢
      rw [if_pos (lastM_range _ ps rfl x i hm), hl]
  · unfold slices_Clone_byte_byte.f
    rw [if_pos (by show (rd_L2 (nowL safe ps) x).length < _; dsimp only at hlen; omega)]
theorem rows_len {w : World} {A : Option Addr} {n : Nat} {xs : List (List Int)} (h : Kd.C (Kd.slice 5 (Kd.int .u8)) w A n xs) : ∀ l ∈ xs, l.length ≤ 9223372036854775807 := by
  intro l hl
  obtain ⟨i, hi⟩ := List.getElem?_of_mem hl
  have hn : 0 < n := by
    have := (List.getElem?_eq_some_iff.1 hi).1
    rw [h.1] at this
    omega
  obtain ⟨ad, _, hc⟩ := h.2.2 hn
  obtain ⟨c, _, ⟨A', c', _, _, hC⟩, _⟩ := hc i l hi
  exact hC.2.1
theorem pends_len {w : World} {A : Option Addr} {n : Nat} {xs : List S184} (h : Kd.C k184 w A n xs) : ∀ q ∈ xs, q.f1.length ≤ 9223372036854775807 := by
  intro q hq
  obtain ⟨i, hi⟩ := List.getElem?_of_mem hq
  have hn : 0 < n := by
    have := (List.getElem?_eq_some_iff.1 hi).1
    rw [h.1] at this
    omega
  obtain ⟨ad, _, hc⟩ := h.2.2 hn
  obtain ⟨c, _, hK, _⟩ := hc i q hi
  obtain ⟨A', c', _, _, hC⟩ := k184_open hK
  exact hC.2.1
end Go.Proofs.Ytlopmffdebhpfaa.Pure

/-! ## Open -/
namespace Go.Proofs.Ytlopmffdebhpfaa.G
open Go.RowKit Go.ChangeShapes Go.WideShapes Go.ChangeAt Go.Proofs.YtlopmffdebhpfaaW.PrintWords Go.Proofs.YtlopmffdebhpfaaW.PrintLast Go.Proofs.YtlopmffdebhpfaaW.PrintMore
section
variable {H : Type} {enc : TypeId × Value → H} {P : Program} {w : World} {base : Nat} {spare : Nat → Bool} {held : Bool}
theorem choose_list {α : Type} (n : Nat) (R : Nat → α → Prop) (h : ∀ i, i < n → ∃ x, R i x) : ∃ xs : List α, xs.length = n ∧ ∀ i x, xs[i]? = some x → R i x := by
  induction n with
  | zero => exact ⟨[], rfl, fun i x hx => by simp at hx⟩
  | succ n ih =>
    obtain ⟨xs, hl, hx⟩ := ih (fun i hi => h i (by omega))
    obtain ⟨y, hy⟩ := h n (by omega)
    refine ⟨xs ++ [y], by simp [hl], fun i x hi => ?_⟩
    rcases Nat.lt_or_ge i xs.length with h1 | h1
    · rw [List.getElem?_append_left h1] at hi
      exact hx i x hi
    · rw [List.getElem?_append_right h1] at hi
      have h2 : i - xs.length = 0 := by
        have := (List.getElem?_eq_some_iff.1 hi).1
        simp at this
        omega
      rw [h2] at hi
      obtain rfl : y = x := by simpa using hi
      rw [show i = n by omega]
      exact hy
/-- A slice's reading tells a row that is read. -/
theorem open_rows {α : Type} (d : Kd α) (wf : α → Prop) {t e : TypeId} {fuel : Nat} {cs : List Value} {x : DataW H × List MemPlace} (ht : P.underlying t = some (.slice e)) (hsz : P.cellsOf e = d.sz)
    (hel : ∀ n cs y, DataW.trod enc P w base spare held n e cs = some y → ∃ z, d.K w z cs ∧ wf z) (h : DataW.trod enc P w base spare held fuel t cs = some x) :
    ∃ A c zs, cs = [.slice A zs.length c] ∧ zs.length ≤ c ∧ Kd.C d w A zs.length zs ∧ ∀ z ∈ zs, wf z := by
  rcases DataW.trod_slice ht h with ⟨rfl, _⟩ | ⟨a, len, cap, elems, rest, n, _, rfl, _, _, hl, hm, hlen, hE, _⟩
  · exact ⟨none, 0, [], rfl, Nat.le_refl _, ⟨rfl, Nat.zero_le _, fun h0 => absurd h0 (Nat.lt_irrefl 0)⟩, fun z hz => by cases hz⟩
  have hpick : ∀ i, i < len → ∃ z : α, wf z ∧ ∃ c, c.length = d.sz ∧ d.K w z c ∧ ∀ j u, c[j]? = some u → w.cell? (a.add (i * d.sz + j)) = some u := by
    intro i hi
    have h1 := hE i hi
    rw [List.getElem?_eq_getElem (by omega), Option.bind_eq_some_iff] at h1
    obtain ⟨c, hc, hy⟩ := h1
    obtain ⟨z, hK, hz⟩ := hel n c _ hy
    obtain ⟨_, hcl, hcc⟩ := World.cells?_some hc
    refine ⟨z, hz, c, by rw [hcl, hsz], hK, fun j u hu => ?_⟩
    have hj : j < P.cellsOf e := by
      have := (List.getElem?_eq_some_iff.1 hu).1
      omega
    have h2 := hcc j hj
    rw [hu] at h2
    rw [← h2, hsz]
    by_cases z1 : i * d.sz = 0 <;> by_cases z2 : j = 0 <;> simp [Addr.add, z1, z2, Nat.add_assoc]
  obtain ⟨zs, hzl, hzs⟩ := choose_list len _ hpick
  refine ⟨some a, cap, zs, by rw [hzl], by omega, ⟨rfl, by rw [hzl]; exact Nat.le_trans hl hm, fun _ => ⟨a, rfl, fun j p hp => (hzs j p hp).2⟩⟩, fun z hz => ?_⟩
  obtain ⟨i, hi⟩ := List.getElem?_of_mem hz
  exact (hzs i z hi).1
theorem open_el_int {k : IntKind} {e : TypeId} (he : P.underlying e = some (.int k)) (n : Nat) (cs : List Value) (y : DataW H × List MemPlace) (h : DataW.trod enc P w base spare held n e cs = some y) : ∃ z, (Kd.int k).K w z cs ∧ (Lit.int k z).wf = true := by
  obtain ⟨m, rfl, _, hw⟩ := DataW.trod_int he h
  exact ⟨m, rfl, hw⟩
theorem two_of_length {α : Type} : ∀ {l : List α}, l.length = 2 → ∃ u v, l = [u, v]
  | [u, v], _ => ⟨u, v, rfl⟩
/-- A row of bytes. -/
def Wb (l : List Int) : Prop := ∀ x ∈ l, (Lit.int .u8 x).wf = true
theorem open_el_bytes {t e : TypeId} (ht : P.underlying t = some (.slice e)) (he : P.underlying e = some (.int .u8)) (hc : P.cellsOf e = 1) (n : Nat) (cs : List Value) (y : DataW H × List MemPlace) (h : DataW.trod enc P w base spare held n t cs = some y) : ∃ z, (Kd.slice e (Kd.int .u8)).K w z cs ∧ Wb z := by
  obtain ⟨A, c, zs, rfl, hl, hC, hw⟩ := open_rows (Kd.int .u8) (fun x => (Lit.int .u8 x).wf = true) ht hc (open_el_int he) h
  exact ⟨zs, ⟨A, c, rfl, hl, hC⟩, hw⟩
theorem open_el_pend (n : Nat) (cs : List Value) (y : DataW H × List MemPlace) (h : DataW.trod enc Try.prog w base spare held n 184 cs = some y) : ∃ z, k184.K w z cs ∧ ((Lit.int .i64 z.f0).wf = true ∧ Wb z.f1) := by
  obtain ⟨y0, y1, m, _, hlen, h0, h1⟩ := trod_struct2 Try.underlying184 h
  obtain ⟨a, ha, _, hw⟩ := DataW.trod_int Try.underlying3 h0
  obtain ⟨z, hK, hz⟩ := open_el_bytes Try.underlying22 Try.underlying5 (by kernel_rfl) m _ _ h1
  obtain ⟨A, c, hb, hl, hC⟩ := hK
  have h3 : Try.prog.cellsOf 3 = 1 := by kernel_rfl
  have h22 : Try.prog.cellsOf 22 = 1 := by kernel_rfl
  have h184 : Try.prog.cellsOf 184 = 2 := by kernel_rfl
  rw [h184] at hlen
  rw [h3] at ha
  rw [h22] at hb
  obtain ⟨u, v, rfl⟩ := two_of_length hlen
  have ha' : u = .int .i64 a := by simpa using ha
  have hb' : v = .slice A z.length c := by simpa using hb
  rw [ha', hb']
  exact ⟨⟨a, z⟩, k184_mk w ⟨a, z⟩ hl hC, hw, hz⟩
/-- A disk that came in, opened. -/
structure ODisk (w : World) where
  A0 : Option Addr
  c0 : Nat
  A1 : Option Addr
  c1 : Nat
  l0 : List (List Int)
  l1 : List S184
  hc0 : l0.length ≤ c0
  hc1 : l1.length ≤ c1
  hr0 : Kd.C (Kd.slice 5 (Kd.int .u8)) w A0 l0.length l0
  hr1 : Kd.C k184 w A1 l1.length l1
  hw0 : ∀ l ∈ l0, Wb l
  hw1 : ∀ q ∈ l1, (Lit.int .i64 q.f0).wf = true ∧ Wb q.f1
def ODisk.v {w : World} (o : ODisk w) : Value := .agg #[.slice o.A0 o.l0.length o.c0, .slice o.A1 o.l1.length o.c1]
set_option maxRecDepth 100000 in
/-- A disk by value: its sectors and its pending writes. -/
theorem open_disk {r : Reach} {b0 : Nat} {v : Value} {d : DataW H} {p : List MemPlace} (hv : Value.okWide Try.prog w r b0 39 v) (h : DataW.Trod enc Try.prog w base spare held 39 v d p) : ∃ o : ODisk w, v = o.v := by
  obtain ⟨v0, v1, y0, y1, n, rfl, _, _, h0, h1⟩ := Go.Joins.open_agg2 Try.underlying39 (by kernel_rfl) (by kernel_rfl) hv h
  obtain ⟨A0, c0, l0, e0, hl0, hC0, hw0⟩ := open_rows (Kd.slice 5 (Kd.int .u8)) Wb Try.underlying36 (by kernel_rfl) (open_el_bytes Try.underlying22 Try.underlying5 (by kernel_rfl)) h0
  obtain ⟨A1, c1, l1, e1, hl1, hC1, hw1⟩ := open_rows k184 (fun q => (Lit.int .i64 q.f0).wf = true ∧ Wb q.f1) Try.underlying37 (by kernel_rfl) open_el_pend h1
  injection e0 with e0
  injection e1 with e1
  subst e0
  subst e1
  exact ⟨⟨A0, c0, A1, c1, l0, l1, hl0, hl1, hC0, hC1, hw0, hw1⟩, rfl⟩
end
end Go.Proofs.Ytlopmffdebhpfaa.G

/-! ## PureFnExactReadSector -/
namespace Go.Proofs.Ytlopmffdebhpfaa.Pure
open Go.RowKit Go.Proofs.Ytlopmffdebhpfaa.G Go.Proofs.YtlopmffdebhpfaaW.PrintWords Go.Proofs.YtlopmffdebhpfaaW.PrintLast Go.Proofs.YtlopmffdebhpfaaW.PrintMore
theorem FnExactReadSector (w : World) (o : ODisk w) (x : Int) (hx : (Lit.int .i64 x).wf = true) : Calls Try.prog 5 #[o.v, .int .i64 x] w fun e w' => e = .returned (.bool true) ∧ Below w.heap.size w w' := by
  obtain ⟨A0, c0, A1, c1, l0, l1, hc0, hc1, hr0, hr1, hw0, hw1'⟩ := o
  have hw1 := fun q hq => (hw1' q hq).1
  show Calls Try.prog 5 #[.agg #[.slice A0 l0.length c0, .slice A1 l1.length c1], .int .i64 x] w _
  obtain ⟨s, hs, h1, h2⟩ := szD (ls := l0) (ps := l1) (a := 1048576) (by decide) (by decide) (rows_len hr0) hr0.2.1 (pends_len hr1) hr1.2.1
  obtain ⟨k, hk⟩ := hs.get
  by_cases hneg : s < 0
  · exact laws_FnExactReadSector.small k A0 c0 l0 A1 c1 l1 x s w hr0 hc0 hr1 hc1 hk hneg
  have htot := h2 (by omega)
  have hl0 : ∀ l ∈ l0, l.length ≤ 1048576 := fun l hl => by have := le_totL hl; omega
  have hl1 : ∀ q ∈ l1, q.f1.length ≤ 1048576 := fun q hq => by have := le_totP4 hq; omega
  have hq1 : ∀ q ∈ l1.map cv, q.f1.length ≤ 1048576 := fun q hq => by
    obtain ⟨p, hp, rfl⟩ := List.mem_map.1 hq
    exact hl1 p hp
  have hrl := rsV_len l0 (l1.map cv) x
  have hspec := spec_rs (safe := l0) (ps := l1.map cv) (x := x)
  have himpl := impl_rs (safe := l0) (ps := l1.map cv) (x := x)
  generalize rsV l0 (l1.map cv) x = v at hrl hspec himpl
  obtain ⟨ra, rb⟩ := v
  dsimp only at hrl
  obtain ⟨k2, hk2⟩ := (toD (ls := l0) (ps := l1) (fun l hl => by have := hl0 l hl; omega) (by omega) (fun l hl => by have := hl1 l hl; omega) (by omega)).get
  obtain ⟨k3, hk3⟩ := hspec.get
  obtain ⟨k4, hk4⟩ := himpl.get
  obtain ⟨k5, hk5⟩ := (eqB (a := ra) (b := ra) (by omega)).get
  rw [decide_eq_true rfl] at hk5
  obtain ⟨k6, hk6⟩ := (eqD (ls := l0) (ps := l1.map cv) (fun l hl => by have := hl0 l hl; omega) (by omega) (fun l hl => by have := hq1 l hl; omega) (by rw [List.length_map]; omega)).get
  obtain ⟨k7, hk7⟩ := (heldB (n := ra.length) (by omega)).get
  refine laws_FnExactReadSector.full k k2 k3 k4 k5 k6 k7 A0 c0 l0 A1 c1 l1 x s l0 (l1.map cv) ra rb w hr0 hc0 hr1 hc1 hk hneg hk2 hk3 hk4 hk5 hk6 ?_ (by omega) hk7 hx (fun p hp => ?_)
  · rw [totP_cv]
    omega
  · obtain ⟨q, hq, rfl⟩ := List.mem_map.1 hp
    exact hw1 q hq
end Go.Proofs.Ytlopmffdebhpfaa.Pure

/-! ## LawFnExactReadSector -/
namespace Go.Proofs.Ytlopmffdebhpfaa.fnExactReadSector
open Go.ChangeShapes Go.WideShapes Go.ChangeAt Go.RowKit
open Go.ChangeMaps (open_string shut_string)
set_option linter.unusedVariables false
theorem own : ownKnob Try.prog.godebug = none := by kernel_rfl
theorem laidOut : laidOutB Try.prog = true := by kernel_rfl
set_option maxRecDepth 100000 in
theorem lifted (os : Os) (started : os.Started) (H : Type) (enc : TypeId × Value → H) :
    ReturnsInHanded {} Try.checked os 5 .any (Rows.fnExactReadSectorSpec.pre6 enc Try.prog Try.f5 Rows.fnExactReadSectorRow.domain false) (Rows.fnExactReadSectorSpec.post enc Try.prog Try.f5 false true false false) := by
  refine returnsInHanded_of_change_sized (C := Try.checked) own started (by kernel_rfl) Try.func5
    (ChangeSpec.witness6 (enc := enc) (C := Try.checked) false ⟨#[], #[.agg #[.slice none 0 0, .slice none 0 0], .int .i64 0], []⟩ 8 (by kernel_rfl) (by kernel_rfl) (by kernel_rfl) (by kernel_rfl)) ?_
  intro W base args ds gs before hval0 hW hcnd hsz0 _
  have hval : ∀ (j : Nat) t v, Try.f5.params[j]? = some t → args[j]? = some v → Value.okWide Try.prog W .any base t v := hval0
  have hW' := hW
  obtain ⟨p, q, hA0, hV, rfl, hfz, hnd⟩ := hW
  have hA : DataW.TrodAll enc Try.prog W 0 (fun _ => true) true Try.f5.params.toList args.toList ds p := hA0
  rw [Try.params5] at hA hval
  obtain ⟨v0, vs0, d0, ds0, p0, q0, hargs, rfl, rfl, h0, r0⟩ := trodAll_cons hA
  obtain ⟨v1, vs1, d1, ds1, p1, q1, rfl, rfl, rfl, h1, r1⟩ := trodAll_cons r0
  obtain ⟨rfl, rfl, rfl⟩ := trodAll_nil r1
  obtain rfl : args = #[v0, v1] := by cases args; simp_all
  obtain ⟨rfl, rfl⟩ := trodVars_none hV
  have k0 := h0
  have lt0 : ∀ x ∈ p0, x.block < W.heap.size := by obtain ⟨m, hm⟩ := k0; exact DataW.trod_lt m _ _ _ hm
  obtain ⟨o0, rfl⟩ := G.open_disk (hval 0 39 v0 rfl rfl) h0
  obtain ⟨a1, rfl, rfl, rfl, w1⟩ := open_int Try.underlying3 (hval 1 3 v1 rfl rfl) h1
  clear hA0 hval0 hsz0
  refine (Pure.FnExactReadSector W o0 _ w1).mono fun e W' ⟨he, bel⟩ => ?_
  subst he
  exact ⟨_, rfl, _, _, _, [], _, [], hW', trodAll_mk1 (shut_bool Try.underlying4 _), (trodAll_cons_mk (Below.trod laidOut (by kernel_rfl) (of_decide_eq_true (by kernel_rfl)) k0 bel lt0) (trodAll_cons_mk (shut_int Try.underlying3 w1) trodAll_mk0)), rfl, bel.frame _, fun h => by cases h⟩
theorem over : Rows.fnExactReadSectorRow.holds Try.pinned (OpenSpec.ofChange Rows.fnExactReadSectorSpec) :=
  OpenClaim.holds_of_wide 5 Try.f5 rfl rfl rfl rfl rfl rfl rfl ⟨rfl, rfl, rfl, rfl, rfl⟩ rfl rfl rfl rfl rfl (by kernel_rfl) Try.func5 (by kernel_rfl)
    (of_decide_eq_true (by kernel_rfl)) (by unfold Func.isWrapper; first | (rw [if_pos (by decide +kernel)]; kernel_rfl) | (rw [if_neg (by decide +kernel)]; exact ⟨rfl, rfl⟩))
    (fun os started H enc _ => lifted os started H enc)
theorem proved : Rows.FnExactReadSectorSaid := over
#print axioms proved
end Go.Proofs.Ytlopmffdebhpfaa.fnExactReadSector
namespace Go.Proofs.Ytlopmffdebhpfaa
/-- The row, under a short name, for the claim. -/
theorem fnExactReadSector_holds : Rows.FnExactReadSectorSaid := fnExactReadSector.proved
end Go.Proofs.Ytlopmffdebhpfaa
