/- The law FnPage is true of every argument: its row, out of the plain law and the printed walk. Conditions: none beyond the given statement. -/
import Derived.Test.YtlopmffdebhpfaaK4a
import Derived.Test.YtlopmffdebhpfaaK4b
import Derived.Laws.BitsLemmas
import Derived.Laws.Closers25b
import Derived.Test.YtlopmffdebhpfaaRows
import Derived.WalkKit
import Derived.ProofKit
import Derived.OpenShut
import Derived.ShutString
import Derived.ChangeOld
import Derived.Below
import Derived.SizedLaws
import Derived.Test.YtlopmffdebhpfaaWSized
/-! ## G4 -/
namespace Go.Proofs.Ytlopmffdebhpfaa.G
open Go.RowKit Go.Proofs.YtlopmffdebhpfaaW.PrintWords Go.Proofs.YtlopmffdebhpfaaW.PrintLast Go.Proofs.YtlopmffdebhpfaaW.PrintMore
attribute [local go_sem] max2_int min2_int max_two min_two max_three min_three max_four min_four
set_option linter.unusedVariables false
set_option linter.unusedSimpArgs false

/-! ### laws_FnPage: function 4 -/
def laws_FnPage.j0 : Nat → List Int → Int → List Int → Bool → Option (Bool)
  | 0, _, _, _, _ => none
  | k + 1, x0, x3, x8, x72 => if x72 = true then (some false) else (if (wrap64 (8 * (x8.length : Int))) = 0 then (none) else (if 0 ≤ (wrap64 (Int.tdiv (Int.tmod (wrap64 ((x0.length : Int) * 37)) (wrap64 (8 * (x8.length : Int)))) 8)) then (if (wrap64 (Int.tdiv (Int.tmod (wrap64 ((x0.length : Int) * 37)) (wrap64 (8 * (x8.length : Int)))) 8)) < (x8.length : Int) then (if 0 ≤ (Int.tmod (Int.tmod (wrap64 ((x0.length : Int) * 37)) (wrap64 (8 * (x8.length : Int)))) 8) then ((impl_DecodePage.f k x3 (x8.set ((wrap64 (Int.tdiv (Int.tmod (wrap64 ((x0.length : Int) * 37)) (wrap64 (8 * (x8.length : Int)))) 8)) : Int).toNat (Go.bits .xor .u8 (rd x8 (wrap64 (Int.tdiv (Int.tmod (wrap64 ((x0.length : Int) * 37)) (wrap64 (8 * (x8.length : Int)))) 8))) (shl .u8 1 (Int.tmod (Int.tmod (wrap64 ((x0.length : Int) * 37)) (wrap64 (8 * (x8.length : Int)))) 8))))).bind fun bt301 => (if bt301.2.2 = true then (some false) else ((spec_DrawDecodePage.f k x0).bind fun bt306 => ((spec_DecodePage.f k bt306.1 bt306.2).bind fun bt310 => ((impl_DecodePage.f k bt306.1 bt306.2).bind fun bt315 => (if (bt315.2.2 == bt310.2.2) = true then (if bt315.1 = bt310.1 then (some ((strOfNums bt315.2.1).toList == (strOfNums bt310.2.1).toList)) else (some false)) else (some false))))))) else (none)) else (none)) else (none)))
def laws_FnPage.f (k : Nat) (l0 : List Int) : Option (Bool) := if (l0.length : Int) > 1048576 then (some true) else ((spec_DrawEncodePage.f k l0).bind fun bt281 => ((spec_EncodePage.f k bt281.1 bt281.2.1 bt281.2.2).bind fun bt286 => ((impl_EncodePage.f k bt281.1 bt281.2.1 bt281.2.2).bind fun bt290 => (if (bt290.2 != bt286.2) = true then (some false) else (if bt286.2 = true then ((impl_DecodePage.f k bt281.1 bt290.1).bind fun bt294 => (if bt294.2.2 = true then (if bt294.1 = bt281.2.1 then (laws_FnPage.j0 k l0 bt281.1 bt290.1 ((strOfNums bt294.2.1).toList != (strOfNums bt281.2.2).toList)) else (laws_FnPage.j0 k l0 bt281.1 bt290.1 true)) else (laws_FnPage.j0 k l0 bt281.1 bt290.1 true))) else ((spec_DrawDecodePage.f k l0).bind fun bt320 => ((spec_DecodePage.f k bt320.1 bt320.2).bind fun bt324 => ((impl_DecodePage.f k bt320.1 bt320.2).bind fun bt329 => (if (bt329.2.2 == bt324.2.2) = true then (if bt329.1 = bt324.1 then (some ((strOfNums bt329.2.1).toList == (strOfNums bt324.2.1).toList)) else (some false)) else (some false))))))))))
set_option maxRecDepth 100000 in
theorem laws_FnPage.mono_l : ∀ k, (∀ y0 y1 y2 y3, LeO (laws_FnPage.j0 k y0 y1 y2 y3) (laws_FnPage.j0 (k + 1) y0 y1 y2 y3))
  | 0 => fun _ _ _ _ r h => by simp [laws_FnPage.j0] at h
  | k + 1 => by
    have ih0 := laws_FnPage.mono_l k
    · intro y0 y1 y2 y3
      unfold laws_FnPage.j0
      repeat' first
      | (with_reducible exact ih0 _ _ _ _)
      | (with_reducible exact impl_DecodePage.mono _ _ _)
      | (with_reducible exact impl_EncodePage.mono _ _ _ _)
      | (with_reducible exact spec_DecodePage.mono _ _ _)
      | (with_reducible exact spec_DrawDecodePage.mono _ _)
      | (with_reducible exact spec_DrawEncodePage.mono _ _)
      | (with_reducible exact spec_EncodePage.mono _ _ _ _)
      | (with_reducible exact LeO.refl _)
      | (with_reducible exact LeO.none _)
      | (with_reducible refine LeO.ite ?_ ?_)
      | (with_reducible refine LeO.bind ?_ (fun _ => ?_))
      | exact ih0 _ _ _ _
      | exact impl_DecodePage.mono _ _ _
      | exact impl_EncodePage.mono _ _ _ _
      | exact spec_DecodePage.mono _ _ _
      | exact spec_DrawDecodePage.mono _ _
      | exact spec_DrawEncodePage.mono _ _
      | exact spec_EncodePage.mono _ _ _ _
      | exact LeO.none _
      | refine LeO.ite ?_ ?_
      | refine LeO.bind ?_ (fun _ => ?_)
set_option maxRecDepth 100000 in
theorem laws_FnPage.mono : ∀ a0 k, LeO (laws_FnPage.f k a0) (laws_FnPage.f (k + 1) a0) := by
  intro a0 k
  have ih0 := laws_FnPage.mono_l k
  unfold laws_FnPage.f
  repeat' first
      | (with_reducible exact ih0 _ _ _ _)
      | (with_reducible exact impl_DecodePage.mono _ _ _)
      | (with_reducible exact impl_EncodePage.mono _ _ _ _)
      | (with_reducible exact spec_DecodePage.mono _ _ _)
      | (with_reducible exact spec_DrawDecodePage.mono _ _)
      | (with_reducible exact spec_DrawEncodePage.mono _ _)
      | (with_reducible exact spec_EncodePage.mono _ _ _ _)
      | (with_reducible exact LeO.refl _)
      | (with_reducible exact LeO.none _)
      | (with_reducible refine LeO.ite ?_ ?_)
      | (with_reducible refine LeO.bind ?_ (fun _ => ?_))
      | exact ih0 _ _ _ _
      | exact impl_DecodePage.mono _ _ _
      | exact impl_EncodePage.mono _ _ _ _
      | exact spec_DecodePage.mono _ _ _
      | exact spec_DrawDecodePage.mono _ _
      | exact spec_DrawEncodePage.mono _ _
      | exact spec_EncodePage.mono _ _ _ _
      | exact LeO.none _
      | refine LeO.ite ?_ ?_
      | refine LeO.bind ?_ (fun _ => ?_)
def laws_FnPage.T13 : Bool × List (List Nat × List Nat) := (true, [([], []), ([], []), ([1], [1]), ([0, 2], [0, 2]), ([3], [3]), ([], []), ([5], [5]), ([6], [6]), ([4, 7], [4, 7]), ([0, 2, 0, 1, 2, 3, 4, 5, 6, 7, 8], [0, 2]), ([9, 8, 0, 1, 2, 3, 4, 5, 6, 7, 8], [8, 9])])
def laws_FnPage.B13 : List Nat := [0, 0, 2, 7, 15, 0, 32, 96, 255, 511, 1023]
theorem laws_FnPage.tab13 : rtab .any (opsOf Try.f4 13) = laws_FnPage.T13 := by kernel_rfl
theorem laws_FnPage.bits13 : waitsOk laws_FnPage.T13.2 laws_FnPage.B13 = true := by kernel_rfl
set_option maxHeartbeats 8000000 in
set_option maxRecDepth 100000 in
theorem laws_FnPage.calls (k : Nat) (A0 : Option Addr) (c0 : Nat) (l0 : List Int) (r : Bool) (w : World) (hr0 : Kd.C (Kd.int .u8) w A0 l0.length l0) (hc0 : l0.length ≤ c0) (h : laws_FnPage.f k l0 = some r) :
    Calls Try.prog 4 #[.slice A0 l0.length c0] w fun e w' => e = .returned (.bool r) ∧ Below w.heap.size w w' := by
  have HR0 := Aside0.mk hr0
  have HC0 := Aside0.mk hc0
  clear hr0 hc0
  have HB := Aside0.mk (Below.refl w.heap.size w)
  have H : (if (l0.length : Int) > 1048576 then (some true) else ((spec_DrawEncodePage.f k l0).bind fun bt281 => ((spec_EncodePage.f k bt281.1 bt281.2.1 bt281.2.2).bind fun bt286 => ((impl_EncodePage.f k bt281.1 bt281.2.1 bt281.2.2).bind fun bt290 => (if (bt290.2 != bt286.2) = true then (some false) else (if bt286.2 = true then ((impl_DecodePage.f k bt281.1 bt290.1).bind fun bt294 => (if bt294.2.2 = true then (if bt294.1 = bt281.2.1 then (laws_FnPage.j0 k l0 bt281.1 bt290.1 ((strOfNums bt294.2.1).toList != (strOfNums bt281.2.2).toList)) else (laws_FnPage.j0 k l0 bt281.1 bt290.1 true)) else (laws_FnPage.j0 k l0 bt281.1 bt290.1 true))) else ((spec_DrawDecodePage.f k l0).bind fun bt320 => ((spec_DecodePage.f k bt320.1 bt320.2).bind fun bt324 => ((impl_DecodePage.f k bt320.1 bt320.2).bind fun bt329 => (if (bt329.2.2 == bt324.2.2) = true then (if bt329.1 = bt324.1 then (some ((strOfNums bt329.2.1).toList == (strOfNums bt324.2.1).toList)) else (some false)) else (some false))))))))))) = some r := h
  clear h
  by_cases c2 : (l0.length : Int) > 1048576
  · rw [if_pos c2] at H
    have c2b0 : decide (1048576 < (l0.length : Int)) = true := decide_eq_true c2
    have c2b1 : decide (1048576 < l0.length) = true := decide_eq_true (by omega)
    clear c2
    obtain rfl := Option.some.inj H
    go_enter Try.func4, Try.ntmps4
    go_wp2
    go_ret
    exact ⟨by first | rfl | (simp [errW_none, errW_some] <;> rfl) | (simp [*, errW_none, errW_some] <;> rfl), by repeat (first | (with_reducible first | exact HB.out | apply below_alloc | apply pw_below_drewN | apply below_drew1) | exact HB.out)⟩
  · rw [if_neg c2] at H
    have c2b0 : decide (1048576 < (l0.length : Int)) = false := decide_eq_false c2
    have c2b1 : decide (1048576 < l0.length) = false := decide_eq_false (by omega)
    clear c2
    replace H := Option.bind_eq_some_iff.mp H
    obtain ⟨⟨t281, t282, t283⟩, A30, H⟩ := H
    replace H : ((spec_EncodePage.f k t281 t282 t283).bind fun bt286 => ((impl_EncodePage.f k t281 t282 t283).bind fun bt290 => (if (bt290.2 != bt286.2) = true then (some false) else (if bt286.2 = true then ((impl_DecodePage.f k t281 bt290.1).bind fun bt294 => (if bt294.2.2 = true then (if bt294.1 = t282 then (laws_FnPage.j0 k l0 t281 bt290.1 ((strOfNums bt294.2.1).toList != (strOfNums t283).toList)) else (laws_FnPage.j0 k l0 t281 bt290.1 true)) else (laws_FnPage.j0 k l0 t281 bt290.1 true))) else ((spec_DrawDecodePage.f k l0).bind fun bt320 => ((spec_DecodePage.f k bt320.1 bt320.2).bind fun bt324 => ((impl_DecodePage.f k bt320.1 bt320.2).bind fun bt329 => (if (bt329.2.2 == bt324.2.2) = true then (if bt329.1 = bt324.1 then (some ((strOfNums bt329.2.1).toList == (strOfNums bt324.2.1).toList)) else (some false)) else (some false))))))))) = some r := H
    have A3 := Aside0.mk A30
    clear A30
    replace H := Option.bind_eq_some_iff.mp H
    obtain ⟨⟨t286, t287⟩, A40, H⟩ := H
    replace H : ((impl_EncodePage.f k t281 t282 t283).bind fun bt290 => (if (bt290.2 != t287) = true then (some false) else (if t287 = true then ((impl_DecodePage.f k t281 bt290.1).bind fun bt294 => (if bt294.2.2 = true then (if bt294.1 = t282 then (laws_FnPage.j0 k l0 t281 bt290.1 ((strOfNums bt294.2.1).toList != (strOfNums t283).toList)) else (laws_FnPage.j0 k l0 t281 bt290.1 true)) else (laws_FnPage.j0 k l0 t281 bt290.1 true))) else ((spec_DrawDecodePage.f k l0).bind fun bt320 => ((spec_DecodePage.f k bt320.1 bt320.2).bind fun bt324 => ((impl_DecodePage.f k bt320.1 bt320.2).bind fun bt329 => (if (bt329.2.2 == bt324.2.2) = true then (if bt329.1 = bt324.1 then (some ((strOfNums bt329.2.1).toList == (strOfNums bt324.2.1).toList)) else (some false)) else (some false)))))))) = some r := H
    have A4 := Aside0.mk A40
    clear A40
    replace H := Option.bind_eq_some_iff.mp H
    obtain ⟨⟨t290, t291⟩, A50, H⟩ := H
    replace H : (if (t291 != t287) = true then (some false) else (if t287 = true then ((impl_DecodePage.f k t281 t290).bind fun bt294 => (if bt294.2.2 = true then (if bt294.1 = t282 then (laws_FnPage.j0 k l0 t281 t290 ((strOfNums bt294.2.1).toList != (strOfNums t283).toList)) else (laws_FnPage.j0 k l0 t281 t290 true)) else (laws_FnPage.j0 k l0 t281 t290 true))) else ((spec_DrawDecodePage.f k l0).bind fun bt320 => ((spec_DecodePage.f k bt320.1 bt320.2).bind fun bt324 => ((impl_DecodePage.f k bt320.1 bt320.2).bind fun bt329 => (if (bt329.2.2 == bt324.2.2) = true then (if bt329.1 = bt324.1 then (some ((strOfNums bt329.2.1).toList == (strOfNums bt324.2.1).toList)) else (some false)) else (some false))))))) = some r := H
    have A5 := Aside0.mk A50
    clear A50
    by_cases c6 : (t291 != t287) = true
    · rw [if_pos c6] at H
      have c6b0 : (t291 != t287) = true := c6
      (try (have c6b1 : decide (t291 = t287) = false := by simpa using c6))
      (try (have c6b2 : (t291 == t287) = false := by simpa using c6))
      (try (have c6b3 : ¬ (t291 = t287) := by simpa using c6))
      clear c6
      obtain rfl := Option.some.inj H
      go_enter Try.func4, Try.ntmps4
      go_wp2_with (first | ((with_reducible refine gate_callee (f := 20) rfl ?_); refine goesL_ (some 30) rfl rfl Try.func20 (by kernel_rfl) rfl #[.slice A0 l0.length c0] rfl (by (try simp only [List.map_toArray, List.map_cons, List.map_nil]); first | done | rfl | (simp only [List.length_drop, List.length_take]; rfl)) ?_; (with_reducible refine (spec_DrawEncodePage.calls k _ _ l0 t281 t282 t283 _ ?side1 ?side2 A3.out).mono ?_); (case side1 => repeat (first | exact HR0.out | (with_reducible refine Kd.C_alloc ?_ _) | (with_reducible refine Kd.C_drewN ?_ _) | (with_reducible refine Kd.C_drew ?_))); (case side2 => exact HC0.out); rintro e w7 ⟨v284, rfl, ho0, hb⟩; refine ⟨_, rfl, ?_⟩; have n0_ := Aside0.mk (Kd.R_lower ho0 (below_size (by repeat (first | (with_reducible first | exact HB.out | apply below_alloc | apply pw_below_drewN | apply below_drew1) | exact HB.out)))); have n1_ := Aside0.mk (below_step (by repeat (first | (with_reducible first | exact HB.out | apply below_alloc | apply pw_below_drewN | apply below_drew1) | exact HB.out)) hb); clear HB; have HO285 := n0_; have HB := n1_; clear n0_ n1_; (try clear hb); (try clear hb2); (try clear hk); (try clear hi); (try clear ho0); obtain ⟨Ao8, co8, eo8⟩ := Kd.R_slice HO285.out; subst eo8) | ((with_reducible refine gate_callee (f := 21) rfl ?_); refine goesL_ (some 38) rfl rfl Try.func21 (by kernel_rfl) rfl #[.int .i64 t281, .int .i64 t282, .slice Ao8 t283.length co8] rfl (by (try simp only [List.map_toArray, List.map_cons, List.map_nil]); first | done | rfl | (simp only [List.length_drop, List.length_take]; rfl)) ?_; (with_reducible refine (spec_EncodePage.calls k t281 t282 _ _ t283 t286 t287 _ ?side1 ?side2 A4.out).mono ?_); (case side1 => repeat (first | exact (Kd.R_reads' HO285.out).2.2 | (with_reducible refine Kd.C_alloc ?_ _) | (with_reducible refine Kd.C_drewN ?_ _) | (with_reducible refine Kd.C_drew ?_))); (case side2 => exact (Kd.R_reads' HO285.out).2.1); rintro e w9 ⟨v288, rfl, ho0, hb⟩; refine ⟨_, rfl, ?_⟩; have n0_ := Aside0.mk (Kd.R_elder' (by (with_reducible repeat (first | apply Kd.R_alloc | apply Kd.R_drewN | apply Kd.R_drew)); exact HO285.out) (Kd.R_base ho0) hb); have n1_ := Aside0.mk (Kd.R_lower (Kd.R_new' ho0 (Kd.R_lt (by (with_reducible repeat (first | apply Kd.R_alloc | apply Kd.R_drewN | apply Kd.R_drew)); exact HO285.out))) (below_size (by repeat (first | (with_reducible first | exact HB.out | apply below_alloc | apply pw_below_drewN | apply below_drew1) | exact HB.out)))); have n2_ := Aside0.mk (below_step (by repeat (first | (with_reducible first | exact HB.out | apply below_alloc | apply pw_below_drewN | apply below_drew1) | exact HB.out)) hb); clear HO285; clear HB; have HO285 := n0_; have HO289 := n1_; have HB := n2_; clear n0_ n1_ n2_; (try clear hb); (try clear hb2); (try clear hk); (try clear hi); (try clear ho0)) | ((with_reducible refine gate_callee (f := 22) rfl ?_); refine goesL_ (some 45) rfl rfl Try.func22 (by kernel_rfl) rfl #[.int .i64 t281, .int .i64 t282, .slice Ao8 t283.length co8] rfl (by (try simp only [List.map_toArray, List.map_cons, List.map_nil]); first | done | rfl | (simp only [List.length_drop, List.length_take]; rfl)) ?_; (with_reducible refine (impl_EncodePage.calls k t281 t282 _ _ t283 t290 t291 _ ?side1 ?side2 A5.out).mono ?_); (case side1 => repeat (first | exact (Kd.R_reads' HO285.out).2.2 | (with_reducible refine Kd.C_alloc ?_ _) | (with_reducible refine Kd.C_drewN ?_ _) | (with_reducible refine Kd.C_drew ?_))); (case side2 => exact (Kd.R_reads' HO285.out).2.1); rintro e w10 ⟨v292, rfl, ho0, hb⟩; refine ⟨_, rfl, ?_⟩; have n0_ := Aside0.mk (Kd.R_elder' (by (with_reducible repeat (first | apply Kd.R_alloc | apply Kd.R_drewN | apply Kd.R_drew)); exact HO285.out) (Kd.R_base ho0) hb); have n1_ := Aside0.mk (Kd.R_elder' (by (with_reducible repeat (first | apply Kd.R_alloc | apply Kd.R_drewN | apply Kd.R_drew)); exact HO289.out) (Kd.R_base ho0) hb); have n2_ := Aside0.mk (Kd.R_lower (Kd.R_new' (Kd.R_new' ho0 (Kd.R_lt (by (with_reducible repeat (first | apply Kd.R_alloc | apply Kd.R_drewN | apply Kd.R_drew)); exact HO285.out))) (Kd.R_lt (by (with_reducible repeat (first | apply Kd.R_alloc | apply Kd.R_drewN | apply Kd.R_drew)); exact HO289.out))) (below_size (by repeat (first | (with_reducible first | exact HB.out | apply below_alloc | apply pw_below_drewN | apply below_drew1) | exact HB.out)))); have n3_ := Aside0.mk (below_step (by repeat (first | (with_reducible first | exact HB.out | apply below_alloc | apply pw_below_drewN | apply below_drew1) | exact HB.out)) hb); clear HO285; clear HO289; clear HB; have HO285 := n0_; have HO289 := n1_; have HO293 := n2_; have HB := n3_; clear n0_ n1_ n2_ n3_; (try clear hb); (try clear hb2); (try clear hk); (try clear hi); (try clear ho0)))
      go_ret
      exact ⟨by first | rfl | (simp [errW_none, errW_some] <;> rfl) | (simp [*, errW_none, errW_some] <;> rfl), by repeat (first | (with_reducible first | exact HB.out | apply below_alloc | apply pw_below_drewN | apply below_drew1) | exact HB.out)⟩
    · rw [if_neg c6] at H
      have c6b0 : (t291 != t287) = false := by simpa using c6
      (try (have c6b1 : decide (t291 = t287) = true := by simpa using c6))
      (try (have c6b2 : (t291 == t287) = true := by simpa using c6))
      clear c6
      by_cases c11 : t287 = true
      · subst c11
        have H1 : ((impl_DecodePage.f k t281 t290).bind fun bt294 => (if bt294.2.2 = true then (if bt294.1 = t282 then (laws_FnPage.j0 k l0 t281 t290 ((strOfNums bt294.2.1).toList != (strOfNums t283).toList)) else (laws_FnPage.j0 k l0 t281 t290 true)) else (laws_FnPage.j0 k l0 t281 t290 true))) = some r := by rw [if_pos rfl] at H; exact H
        clear H
        have H := H1
        clear H1
        replace H := Option.bind_eq_some_iff.mp H
        obtain ⟨⟨t294, t295, t296⟩, A120, H⟩ := H
        replace H : (if t296 = true then (if t294 = t282 then (laws_FnPage.j0 k l0 t281 t290 ((strOfNums t295).toList != (strOfNums t283).toList)) else (laws_FnPage.j0 k l0 t281 t290 true)) else (laws_FnPage.j0 k l0 t281 t290 true)) = some r := H
        have A12 := Aside0.mk A120
        clear A120
        have HC13 := Aside0.mk H
        clear H
        go_enter Try.func4, Try.ntmps4
        go_upto_region 10 with (first | ((with_reducible refine gate_callee (f := 20) rfl ?_); refine goesL_ (some 30) rfl rfl Try.func20 (by kernel_rfl) rfl #[.slice A0 l0.length c0] rfl (by (try simp only [List.map_toArray, List.map_cons, List.map_nil]); first | done | rfl | (simp only [List.length_drop, List.length_take]; rfl)) ?_; (with_reducible refine (spec_DrawEncodePage.calls k _ _ l0 t281 t282 t283 _ ?side1 ?side2 A3.out).mono ?_); (case side1 => repeat (first | exact HR0.out | (with_reducible refine Kd.C_alloc ?_ _) | (with_reducible refine Kd.C_drewN ?_ _) | (with_reducible refine Kd.C_drew ?_))); (case side2 => exact HC0.out); rintro e w14 ⟨v284, rfl, ho0, hb⟩; refine ⟨_, rfl, ?_⟩; have n0_ := Aside0.mk (Kd.R_lower ho0 (below_size (by repeat (first | (with_reducible first | exact HB.out | apply below_alloc | apply pw_below_drewN | apply below_drew1) | exact HB.out)))); have n1_ := Aside0.mk (below_step (by repeat (first | (with_reducible first | exact HB.out | apply below_alloc | apply pw_below_drewN | apply below_drew1) | exact HB.out)) hb); clear HB; have HO285 := n0_; have HB := n1_; clear n0_ n1_; (try clear hb); (try clear hb2); (try clear hk); (try clear hi); (try clear ho0); obtain ⟨Ao15, co15, eo15⟩ := Kd.R_slice HO285.out; subst eo15) | ((with_reducible refine gate_callee (f := 21) rfl ?_); refine goesL_ (some 38) rfl rfl Try.func21 (by kernel_rfl) rfl #[.int .i64 t281, .int .i64 t282, .slice Ao15 t283.length co15] rfl (by (try simp only [List.map_toArray, List.map_cons, List.map_nil]); first | done | rfl | (simp only [List.length_drop, List.length_take]; rfl)) ?_; (with_reducible refine (spec_EncodePage.calls k t281 t282 _ _ t283 t286 true _ ?side1 ?side2 A4.out).mono ?_); (case side1 => repeat (first | exact (Kd.R_reads' HO285.out).2.2 | (with_reducible refine Kd.C_alloc ?_ _) | (with_reducible refine Kd.C_drewN ?_ _) | (with_reducible refine Kd.C_drew ?_))); (case side2 => exact (Kd.R_reads' HO285.out).2.1); rintro e w16 ⟨v288, rfl, ho0, hb⟩; refine ⟨_, rfl, ?_⟩; have n0_ := Aside0.mk (Kd.R_elder' (by (with_reducible repeat (first | apply Kd.R_alloc | apply Kd.R_drewN | apply Kd.R_drew)); exact HO285.out) (Kd.R_base ho0) hb); have n1_ := Aside0.mk (Kd.R_lower (Kd.R_new' ho0 (Kd.R_lt (by (with_reducible repeat (first | apply Kd.R_alloc | apply Kd.R_drewN | apply Kd.R_drew)); exact HO285.out))) (below_size (by repeat (first | (with_reducible first | exact HB.out | apply below_alloc | apply pw_below_drewN | apply below_drew1) | exact HB.out)))); have n2_ := Aside0.mk (below_step (by repeat (first | (with_reducible first | exact HB.out | apply below_alloc | apply pw_below_drewN | apply below_drew1) | exact HB.out)) hb); clear HO285; clear HB; have HO285 := n0_; have HO289 := n1_; have HB := n2_; clear n0_ n1_ n2_; (try clear hb); (try clear hb2); (try clear hk); (try clear hi); (try clear ho0)) | ((with_reducible refine gate_callee (f := 22) rfl ?_); refine goesL_ (some 45) rfl rfl Try.func22 (by kernel_rfl) rfl #[.int .i64 t281, .int .i64 t282, .slice Ao15 t283.length co15] rfl (by (try simp only [List.map_toArray, List.map_cons, List.map_nil]); first | done | rfl | (simp only [List.length_drop, List.length_take]; rfl)) ?_; (with_reducible refine (impl_EncodePage.calls k t281 t282 _ _ t283 t290 t291 _ ?side1 ?side2 A5.out).mono ?_); (case side1 => repeat (first | exact (Kd.R_reads' HO285.out).2.2 | (with_reducible refine Kd.C_alloc ?_ _) | (with_reducible refine Kd.C_drewN ?_ _) | (with_reducible refine Kd.C_drew ?_))); (case side2 => exact (Kd.R_reads' HO285.out).2.1); rintro e w17 ⟨v292, rfl, ho0, hb⟩; refine ⟨_, rfl, ?_⟩; have n0_ := Aside0.mk (Kd.R_elder' (by (with_reducible repeat (first | apply Kd.R_alloc | apply Kd.R_drewN | apply Kd.R_drew)); exact HO285.out) (Kd.R_base ho0) hb); have n1_ := Aside0.mk (Kd.R_elder' (by (with_reducible repeat (first | apply Kd.R_alloc | apply Kd.R_drewN | apply Kd.R_drew)); exact HO289.out) (Kd.R_base ho0) hb); have n2_ := Aside0.mk (Kd.R_lower (Kd.R_new' (Kd.R_new' ho0 (Kd.R_lt (by (with_reducible repeat (first | apply Kd.R_alloc | apply Kd.R_drewN | apply Kd.R_drew)); exact HO285.out))) (Kd.R_lt (by (with_reducible repeat (first | apply Kd.R_alloc | apply Kd.R_drewN | apply Kd.R_drew)); exact HO289.out))) (below_size (by repeat (first | (with_reducible first | exact HB.out | apply below_alloc | apply pw_below_drewN | apply below_drew1) | exact HB.out)))); have n3_ := Aside0.mk (below_step (by repeat (first | (with_reducible first | exact HB.out | apply below_alloc | apply pw_below_drewN | apply below_drew1) | exact HB.out)) hb); clear HO285; clear HO289; clear HB; have HO285 := n0_; have HO289 := n1_; have HO293 := n2_; have HB := n3_; clear n0_ n1_ n2_ n3_; (try clear hb); (try clear hb2); (try clear hk); (try clear hi); (try clear ho0); obtain ⟨Ao18, co18, eo18⟩ := Kd.R_slice HO293.out; subst eo18) | ((with_reducible refine gate_callee (f := 16) rfl ?_); refine goesL_ (some 55) rfl rfl Try.func16 (by kernel_rfl) rfl #[.int .i64 t281, .slice Ao18 t290.length co18] rfl (by (try simp only [List.map_toArray, List.map_cons, List.map_nil]); first | done | rfl | (simp only [List.length_drop, List.length_take]; rfl)) ?_; (with_reducible refine (impl_DecodePage.calls k t281 _ _ t290 t294 t295 t296 _ ?side1 ?side2 A12.out).mono ?_); (case side1 => repeat (first | exact (Kd.R_reads' HO293.out).2.2 | (with_reducible refine Kd.C_alloc ?_ _) | (with_reducible refine Kd.C_drewN ?_ _) | (with_reducible refine Kd.C_drew ?_))); (case side2 => exact (Kd.R_reads' HO293.out).2.1); rintro e w19 ⟨v297, rfl, ho0, hb⟩; refine ⟨_, rfl, ?_⟩; have n0_ := Aside0.mk (Kd.R_elder' (by (with_reducible repeat (first | apply Kd.R_alloc | apply Kd.R_drewN | apply Kd.R_drew)); exact HO285.out) (Kd.R_base ho0) hb); have n1_ := Aside0.mk (Kd.R_elder' (by (with_reducible repeat (first | apply Kd.R_alloc | apply Kd.R_drewN | apply Kd.R_drew)); exact HO289.out) (Kd.R_base ho0) hb); have n2_ := Aside0.mk (Kd.R_elder' (by (with_reducible repeat (first | apply Kd.R_alloc | apply Kd.R_drewN | apply Kd.R_drew)); exact HO293.out) (Kd.R_base ho0) hb); have n3_ := Aside0.mk (Kd.R_lower (Kd.R_new' (Kd.R_new' (Kd.R_new' ho0 (Kd.R_lt (by (with_reducible repeat (first | apply Kd.R_alloc | apply Kd.R_drewN | apply Kd.R_drew)); exact HO285.out))) (Kd.R_lt (by (with_reducible repeat (first | apply Kd.R_alloc | apply Kd.R_drewN | apply Kd.R_drew)); exact HO289.out))) (Kd.R_lt (by (with_reducible repeat (first | apply Kd.R_alloc | apply Kd.R_drewN | apply Kd.R_drew)); exact HO293.out))) (below_size (by repeat (first | (with_reducible first | exact HB.out | apply below_alloc | apply pw_below_drewN | apply below_drew1) | exact HB.out)))); have n4_ := Aside0.mk (below_step (by repeat (first | (with_reducible first | exact HB.out | apply below_alloc | apply pw_below_drewN | apply below_drew1) | exact HB.out)) hb); clear HO285; clear HO289; clear HO293; clear HB; have HO285 := n0_; have HO289 := n1_; have HO293 := n2_; have HO298 := n3_; have HB := n4_; clear n0_ n1_ n2_ n3_ n4_; (try clear hb); (try clear hb2); (try clear hk); (try clear hi); (try clear ho0)))
        (try simp only [Act.put, List.setIfInBounds_toArray, List.set_cons_zero, List.set_cons_succ])
        go_cut [72] (fun v72 wc => ∃ (kq : Nat) (x72_12 : Bool), v72 = .bool x72_12 ∧ Aside0 (laws_FnPage.j0 kq l0 t281 t290 x72_12 = some r) ∧ Aside0 (kq ≤ k) ∧ Aside0 (Kd.R (Kd.int .u8) 5 wc w.heap.size (fun _ => True) (.slice Ao18 t290.length co18) t290) ∧ Aside0 (Below w.heap.size w wc))
        case first =>
          have H := HC13.out
          clear HC13
          by_cases c20 : t296 = true
          · subst c20
            have H1 : (if t294 = t282 then (laws_FnPage.j0 k l0 t281 t290 ((strOfNums t295).toList != (strOfNums t283).toList)) else (laws_FnPage.j0 k l0 t281 t290 true)) = some r := by rw [if_pos rfl] at H; exact H
            clear H
            have H := H1
            clear H1
            by_cases c21 : t294 = t282
            · rw [if_pos c21] at H
              have c21b0 : (t294 == t282) = true := beq_iff_eq.mpr c21
              have c21b1 : (t294 != t282) = false := bne_eq_false_iff_eq.mpr c21
              clear c21
              (first | rw [c21b0] | (simp only [i64_w, i32_w]; rw [c21b0]) | skip)
              have H' := Aside0.mk H
              clear H
              have hcv22 := own_string (P := Try.prog) Try.underlying22 Try.underlying5 Try.underlying9 (Kd.own_of_R HO298.out)
              have hcv23 := own_string (P := Try.prog) Try.underlying22 Try.underlying5 Try.underlying9 (Kd.own_of_R HO285.out)
              go_wp2
              go_meet
              case rel => exact ⟨_, (((strOfNums t295).toList != (strOfNums t283).toList)), (by first | rfl | (simp; done) | (simp [*]; done)), H', ⟨by first | omega | exact Nat.le_refl _⟩, ⟨by (with_reducible repeat (first | apply Kd.R_alloc | apply Kd.R_drewN | apply Kd.R_drew)); exact Kd.R_mono HO293.out (fun _ hk => trivial)⟩, ⟨by repeat (first | (with_reducible first | exact HB.out | apply below_alloc | apply pw_below_drewN | apply below_drew1) | exact HB.out)⟩⟩
            · rw [if_neg c21] at H
              have c21b0 : (t294 == t282) = false := beq_eq_false_iff_ne.mpr c21
              have c21b1 : (t294 != t282) = true := bne_iff_ne.mpr c21
              (first | rw [c21b0] | (simp only [i64_w, i32_w]; rw [c21b0]) | skip)
              have H' := Aside0.mk H
              clear H
              go_wp2
              go_meet
              case rel => exact ⟨_, (true), (by first | rfl | (simp; done) | (simp [*]; done)), H', ⟨by first | omega | exact Nat.le_refl _⟩, ⟨by (with_reducible repeat (first | apply Kd.R_alloc | apply Kd.R_drewN | apply Kd.R_drew)); exact Kd.R_mono HO293.out (fun _ hk => trivial)⟩, ⟨by repeat (first | (with_reducible first | exact HB.out | apply below_alloc | apply pw_below_drewN | apply below_drew1) | exact HB.out)⟩⟩
          · replace c20 := Bool.eq_false_iff.mpr c20
            subst c20
            have H1 : (laws_FnPage.j0 k l0 t281 t290 true) = some r := by rw [if_neg (show ¬ (false = true) by decide)] at H; exact H
            clear H
            have H := H1
            clear H1
            have H' := Aside0.mk H
            clear H
            go_wp2
            go_meet
            case rel => exact ⟨_, (true), (by first | rfl | (simp; done) | (simp [*]; done)), H', ⟨by first | omega | exact Nat.le_refl _⟩, ⟨by (with_reducible repeat (first | apply Kd.R_alloc | apply Kd.R_drewN | apply Kd.R_drew)); exact Kd.R_mono HO293.out (fun _ hk => trivial)⟩, ⟨by repeat (first | (with_reducible first | exact HB.out | apply below_alloc | apply pw_below_drewN | apply below_drew1) | exact HB.out)⟩⟩
        case rest =>
          clear HC13
          try clear c1
          try clear c2
          try clear c2b0
          try clear c2b1
          try clear p2
          try clear hcv2
          try clear c4
          try clear c6
          try clear c6b0
          try clear c6b1
          try clear c6b2
          try clear c11
          try clear c16
          try clear c20
          try clear c21
          try clear c21b0
          try clear c21b1
          try clear c22
          try clear hcv22
          try clear hcv23
          obtain ⟨kq, x72_12, rfl, HA, HJ12, HO_8, HB⟩ := hcut
          cases kq with
          | zero => exact absurd HA.out (by simp [laws_FnPage.j0])
          | succ kj12 =>
            have H := HA.out
            clear HA
            simp only [laws_FnPage.j0] at H
            by_cases c24 : x72_12 = true
            · subst c24
              have H1 : (some false) = some r := by rw [if_pos rfl] at H; exact H
              clear H
              have H := H1
              clear H1
              obtain rfl := Option.some.inj H
              go_wp2
              go_ret
              exact ⟨by first | rfl | (simp [errW_none, errW_some] <;> rfl) | (simp [*, errW_none, errW_some] <;> rfl), by repeat (first | (with_reducible first | exact HB.out | apply below_alloc | apply pw_below_drewN | apply below_drew1) | exact HB.out)⟩
            · replace c24 := Bool.eq_false_iff.mpr c24
              subst c24
              have H1 : (if (wrap64 (8 * (t290.length : Int))) = 0 then (none) else (if 0 ≤ (wrap64 (Int.tdiv (Int.tmod (wrap64 ((l0.length : Int) * 37)) (wrap64 (8 * (t290.length : Int)))) 8)) then (if (wrap64 (Int.tdiv (Int.tmod (wrap64 ((l0.length : Int) * 37)) (wrap64 (8 * (t290.length : Int)))) 8)) < (t290.length : Int) then (if 0 ≤ (Int.tmod (Int.tmod (wrap64 ((l0.length : Int) * 37)) (wrap64 (8 * (t290.length : Int)))) 8) then ((impl_DecodePage.f kj12 t281 (t290.set ((wrap64 (Int.tdiv (Int.tmod (wrap64 ((l0.length : Int) * 37)) (wrap64 (8 * (t290.length : Int)))) 8)) : Int).toNat (Go.bits .xor .u8 (rd t290 (wrap64 (Int.tdiv (Int.tmod (wrap64 ((l0.length : Int) * 37)) (wrap64 (8 * (t290.length : Int)))) 8))) (shl .u8 1 (Int.tmod (Int.tmod (wrap64 ((l0.length : Int) * 37)) (wrap64 (8 * (t290.length : Int)))) 8))))).bind fun bt301 => (if bt301.2.2 = true then (some false) else ((spec_DrawDecodePage.f kj12 l0).bind fun bt306 => ((spec_DecodePage.f kj12 bt306.1 bt306.2).bind fun bt310 => ((impl_DecodePage.f kj12 bt306.1 bt306.2).bind fun bt315 => (if (bt315.2.2 == bt310.2.2) = true then (if bt315.1 = bt310.1 then (some ((strOfNums bt315.2.1).toList == (strOfNums bt310.2.1).toList)) else (some false)) else (some false))))))) else (none)) else (none)) else (none))) = some r := by rw [if_neg (show ¬ (false = true) by decide)] at H; exact H
              clear H
              have H := H1
              clear H1
              by_cases c25 : (wrap64 (8 * (t290.length : Int))) = 0
              · rw [if_pos c25] at H
                exact absurd H (by simp)
              · rw [if_neg c25] at H
                have c25b0 : ((wrap64 (8 * (t290.length : Int))) == 0) = false := beq_eq_false_iff_ne.mpr c25
                have c25b1 : ((wrap64 (8 * (t290.length : Int))) != 0) = true := bne_iff_ne.mpr c25
                obtain ⟨ji26, hji26⟩ : ∃ j_ : Int, (wrap64 (Int.tdiv (Int.tmod (wrap64 ((l0.length : Int) * 37)) (wrap64 (8 * (t290.length : Int)))) 8)) = j_ := ⟨_, rfl⟩
                replace H : (if 0 ≤ (ji26) then (if (ji26) < (t290.length : Int) then (if 0 ≤ (Int.tmod (Int.tmod (wrap64 ((l0.length : Int) * 37)) (wrap64 (8 * (t290.length : Int)))) 8) then ((impl_DecodePage.f kj12 t281 (t290.set ((ji26) : Int).toNat (Go.bits .xor .u8 (rd t290 (ji26)) (shl .u8 1 (Int.tmod (Int.tmod (wrap64 ((l0.length : Int) * 37)) (wrap64 (8 * (t290.length : Int)))) 8))))).bind fun bt301 => (if bt301.2.2 = true then (some false) else ((spec_DrawDecodePage.f kj12 l0).bind fun bt306 => ((spec_DecodePage.f kj12 bt306.1 bt306.2).bind fun bt310 => ((impl_DecodePage.f kj12 bt306.1 bt306.2).bind fun bt315 => (if (bt315.2.2 == bt310.2.2) = true then (if bt315.1 = bt310.1 then (some ((strOfNums bt315.2.1).toList == (strOfNums bt310.2.1).toList)) else (some false)) else (some false))))))) else (none)) else (none)) else (none)) = some r := by first | (rw [hji26] at H; exact H) | (simp only [hji26] at H ⊢; exact H)
                have hji26w : (IntKind.i64.wrap (Int.tdiv (Int.tmod (wrap64 ((l0.length : Int) * 37)) (wrap64 (8 * (t290.length : Int)))) 8)) = ji26 := (i64_w _).trans hji26
                by_cases c27 : 0 ≤ (ji26)
                · rw [if_pos c27] at H
                  have c27b0 : decide (0 ≤ (ji26)) = true := decide_eq_true c27
                  clear c27
                  by_cases c28 : (ji26) < (t290.length : Int)
                  · rw [if_pos c28] at H
                    have c28b0 : decide ((ji26) < (t290.length : Int)) = true := decide_eq_true c28
                    clear c28
                    obtain ⟨ji29, hji29⟩ : ∃ j_ : Int, (Int.tmod (Int.tmod (wrap64 ((l0.length : Int) * 37)) (wrap64 (8 * (t290.length : Int)))) 8) = j_ := ⟨_, rfl⟩
                    replace H : (if 0 ≤ (ji29) then ((impl_DecodePage.f kj12 t281 (t290.set ((ji26) : Int).toNat (Go.bits .xor .u8 (rd t290 (ji26)) (shl .u8 1 (ji29))))).bind fun bt301 => (if bt301.2.2 = true then (some false) else ((spec_DrawDecodePage.f kj12 l0).bind fun bt306 => ((spec_DecodePage.f kj12 bt306.1 bt306.2).bind fun bt310 => ((impl_DecodePage.f kj12 bt306.1 bt306.2).bind fun bt315 => (if (bt315.2.2 == bt310.2.2) = true then (if bt315.1 = bt310.1 then (some ((strOfNums bt315.2.1).toList == (strOfNums bt310.2.1).toList)) else (some false)) else (some false))))))) else (none)) = some r := by first | (rw [hji29] at H; exact H) | (simp only [hji29] at H ⊢; exact H)
                    by_cases c30 : 0 ≤ (ji29)
                    · rw [if_pos c30] at H
                      have c30b0 := eq_true c30
                      have c30b1 : decide (0 ≤ (ji29)) = true := decide_eq_true c30
                      clear c30
                      obtain ⟨ji31, hji31⟩ : ∃ j_ : Int, (shl .u8 1 (ji29)) = j_ := ⟨_, rfl⟩
                      replace H : ((impl_DecodePage.f kj12 t281 (t290.set ((ji26) : Int).toNat (Go.bits .xor .u8 (rd t290 (ji26)) (ji31)))).bind fun bt301 => (if bt301.2.2 = true then (some false) else ((spec_DrawDecodePage.f kj12 l0).bind fun bt306 => ((spec_DecodePage.f kj12 bt306.1 bt306.2).bind fun bt310 => ((impl_DecodePage.f kj12 bt306.1 bt306.2).bind fun bt315 => (if (bt315.2.2 == bt310.2.2) = true then (if bt315.1 = bt310.1 then (some ((strOfNums bt315.2.1).toList == (strOfNums bt310.2.1).toList)) else (some false)) else (some false))))))) = some r := by first | (rw [hji31] at H; exact H) | (simp only [hji31] at H ⊢; exact H)
                      have hji31_ : (IntKind.u8.wrap (1 * 2 ^ min (ji29).toNat 8)) = ji31 := hji31
                      have hji31z : (ji29) ≤ 8 → (IntKind.u8.wrap (1 * 2 ^ (ji29).toNat)) = ji31 := shl_small hji31
                      have hji31u : (IntKind.u8.wrap (2 ^ min (ji29).toNat 8)) = ji31 := by have h_ := hji31_; rw [Int.one_mul] at h_; exact h_
                      have hji31v : (ji29) ≤ 8 → (IntKind.u8.wrap (2 ^ (ji29).toNat)) = ji31 := fun hle_ => by have h_ := hji31z hle_; rw [Int.one_mul] at h_; exact h_
                      obtain ⟨y300, hy300⟩ : ∃ y_ : List Int, y_ = (t290.set ((ji26) : Int).toNat (Go.bits .xor .u8 (rd t290 (ji26)) (ji31))) := ⟨_, rfl⟩
                      replace H : ((impl_DecodePage.f kj12 t281 y300).bind fun bt301 => (if bt301.2.2 = true then (some false) else ((spec_DrawDecodePage.f kj12 l0).bind fun bt306 => ((spec_DecodePage.f kj12 bt306.1 bt306.2).bind fun bt310 => ((impl_DecodePage.f kj12 bt306.1 bt306.2).bind fun bt315 => (if (bt315.2.2 == bt310.2.2) = true then (if bt315.1 = bt310.1 then (some ((strOfNums bt315.2.1).toList == (strOfNums bt310.2.1).toList)) else (some false)) else (some false))))))) = some r := by first | (rw [hy300]; with_reducible exact H) | (have H2_ := (Option.bind_some _ _).symm.trans H; rw [hy300]; with_reducible exact H2_) | (have H2_ := (Option.bind_some _ _).symm.trans H; with_reducible exact H2_) | with_reducible exact H | (rw [hy300]; exact H) | exact H
                      have Ny300 := Aside0.mk hy300
                      clear hy300
                      replace H := Option.bind_eq_some_iff.mp H
                      obtain ⟨⟨t301, t302, t303⟩, A330, H⟩ := H
                      replace H : (if t303 = true then (some false) else ((spec_DrawDecodePage.f kj12 l0).bind fun bt306 => ((spec_DecodePage.f kj12 bt306.1 bt306.2).bind fun bt310 => ((impl_DecodePage.f kj12 bt306.1 bt306.2).bind fun bt315 => (if (bt315.2.2 == bt310.2.2) = true then (if bt315.1 = bt310.1 then (some ((strOfNums bt315.2.1).toList == (strOfNums bt310.2.1).toList)) else (some false)) else (some false)))))) = some r := H
                      have A33 := Aside0.mk A330
                      clear A330
                      by_cases c34 : t303 = true
                      · subst c34
                        have H1 : (some false) = some r := by rw [if_pos rfl] at H; exact H
                        clear H
                        have H := H1
                        clear H1
                        obtain rfl := Option.some.inj H
                        try go_wp2
                        have n0_ := Aside0.mk (Kd.R_drew HO_8.out)
                        have n1_ := Aside0.mk (below_drew1 HB.out)
                        clear HO_8
                        clear HB
                        have HO_8 := n0_
                        have HB := n1_
                        clear n0_ n1_
                        have p299 : 0 ≤ ((ji26) : Int) := of_decide_eq_true (by first | (with_reducible assumption) | assumption)
                        have q299 : (ji26) < (t290.length : Int) := of_decide_eq_true (by first | (with_reducible assumption) | assumption)
                        obtain ⟨ad299, e299, hx299_0⟩ := Kd.at_int (Kd.R_reads' HO_8.out).2.2 (ji26) p299 q299
                        cases e299
                        replace p299 := eq_true p299
                        replace q299 := eq_true q299
                        have p32 : 0 ≤ ((ji26) : Int) := of_decide_eq_true (by first | (with_reducible assumption) | assumption)
                        have q32 : ((ji26) : Int) < ((t290.length : Int) : Int) := of_decide_eq_true (by first | (with_reducible assumption) | assumption)
                        obtain ⟨go32, co32, eo32, gb32, gl32, cl32, HG32⟩ := Kd.R_form HO_8.out (by omega)
                        (first | cases eo32 | (injection eo32 with ea_ en_ ec_; (first | subst ea_ | (injection ea_ with ea_; subst ea_)); subst ec_; clear en_))
                        have GB32 := Aside0.mk gb32
                        have GG32 := Aside0.mk HG32
                        clear gb32 gl32 HG32
                        (first | simp only [add_plain] at hx299_0 | skip)
                        obtain ⟨hx32_0, hf32_0⟩ := Kd.R_celln 0 HO_8.out ((ji26) : Int) p32 q32
                        replace p32 := eq_true p32
                        replace q32 := eq_true q32
                        have HP36 := Kd.R_putn HO_8.out ((ji26) : Int) (Go.bits .xor .u8 (rd t290 (ji26)) (ji31))
                        rw [← Ny300.out] at HP36
                        have HQ36 := Aside0.mk HP36
                        clear HP36
                        refine start_ (n := 11) (S := fun w' => w'.cell? ⟨go32, ((ji26)).toNat, none⟩ = some (.int .u8 (rd t290 (ji26)))) (ds := [10]) #[false, false, false, false, false, false, false, false, false, false, false] (by kernel_rfl) rfl rfl (hx299_0) (fun hHeld => ?_); refine with_tabW laws_FnPage.tab13 laws_FnPage.bits13 (fun HT_ HW_ => ?_)
                        generalize wc.drew = w35 at HO_8 HB GG32 HQ36 hf32_0 hx299_0 hx32_0 hHeld ⊢
                        refine pure_ (i := 0) (N := some 80) (v := ?_) (a' := ?_) #[true, false, false, false, false, false, false, false, false, false, false] rfl rfl (any_of HT_.out (by kernel_rfl)) (fun _ _ _ h => h) (Or.inl ⟨by rfl, ?_⟩) ?_ ?_
                        rotate_left
                        · intro w'
                          go_simp
                          with_reducible rfl
                        rotate_left
                        · simp only [Act.put, List.setIfInBounds_toArray, List.set_cons_zero, List.set_cons_succ, i64_w, i32_w]
                          rfl
                        refine pure_ (i := 1) (N := some 81) (v := ?_) (a' := ?_) #[true, true, false, false, false, false, false, false, false, false, false] rfl rfl (any_of HT_.out (by kernel_rfl)) (fun _ _ _ h => h) (Or.inl ⟨by rfl, ?_⟩) ?_ ?_
                        rotate_left
                        · intro w'
                          go_simp
                          with_reducible rfl
                        rotate_left
                        · simp only [Act.put, List.setIfInBounds_toArray, List.set_cons_zero, List.set_cons_succ, i64_w, i32_w]
                          rfl
                        refine pure_ (i := 2) (N := some 82) (v := ?_) (a' := ?_) #[true, true, true, false, false, false, false, false, false, false, false] rfl rfl (any_of HT_.out (by kernel_rfl)) (fun _ _ _ h => h) (Or.inl ⟨by rfl, ?_⟩) ?_ ?_
                        rotate_left
                        · intro w'
                          go_simp
                          with_reducible rfl
                        rotate_left
                        · simp only [Act.put, List.setIfInBounds_toArray, List.set_cons_zero, List.set_cons_succ, i64_w, i32_w]
                          rfl
                        refine pure_ (i := 3) (N := some 83) (v := ?_) (a' := ?_) #[true, true, true, true, false, false, false, false, false, false, false] rfl rfl (any_of HT_.out (by kernel_rfl)) (fun _ _ _ h => h) (Or.inl ⟨by rfl, ?_⟩) ?_ ?_
                        rotate_left
                        · intro w'
                          go_simp
                          with_reducible rfl
                        rotate_left
                        · simp only [Act.put, List.setIfInBounds_toArray, List.set_cons_zero, List.set_cons_succ, i64_w, i32_w]
                          rfl
                        refine pure_ (i := 5) (N := some 85) (v := ?_) (a' := ?_) #[true, true, true, true, false, true, false, false, false, false, false] rfl rfl (any_of HT_.out (by kernel_rfl)) (fun _ _ _ h => h) (Or.inl ⟨by rfl, ?_⟩) ?_ ?_
                        rotate_left
                        · intro w'
                          go_simp
                          with_reducible rfl
                        rotate_left
                        · simp only [Act.put, List.setIfInBounds_toArray, List.set_cons_zero, List.set_cons_succ, i64_w, i32_w]
                          rfl
                        refine pure_ (i := 6) (N := some 86) (v := ?_) (a' := ?_) #[true, true, true, true, false, true, true, false, false, false, false] rfl rfl (any_of HT_.out (by kernel_rfl)) (fun _ _ _ h => h) (Or.inl ⟨by rfl, ?_⟩) ?_ ?_
                        rotate_left
                        · intro w'
                          go_simp
                          with_reducible rfl
                        rotate_left
                        · simp only [Act.put, List.setIfInBounds_toArray, List.set_cons_zero, List.set_cons_succ, i64_w, i32_w]
                          rfl
                        refine pure_ (i := 7) (N := some 87) (v := ?_) (a' := ?_) #[true, true, true, true, false, true, true, true, false, false, false] rfl rfl (any_of HT_.out (by kernel_rfl)) (fun _ _ _ h => h) (Or.inl ⟨by rfl, ?_⟩) ?_ ?_
                        rotate_left
                        · intro w'
                          go_simp
                          with_reducible rfl
                        rotate_left
                        · simp only [Act.put, List.setIfInBounds_toArray, List.set_cons_zero, List.set_cons_succ, i64_w, i32_w]
                          rfl
                        refine take_ (i := 4) (N := some 84) (v := ?_) (a' := ?_) #[true, true, true, true, true, true, true, true, false, false, false] rfl rfl (take_ofW HT_.out HW_.out (by kernel_rfl)) (fun _ _ _ h => h) (Or.inl ⟨by rfl, ?_⟩) hHeld ?_ ?_
                        rotate_left
                        · intro w' s0
                          go_simp
                          with_reducible rfl
                        rotate_left
                        · simp only [Act.put, List.setIfInBounds_toArray, List.set_cons_zero, List.set_cons_succ, i64_w, i32_w]
                          rfl
                        refine pure_ (i := 8) (N := some 88) (v := ?_) (a' := ?_) #[true, true, true, true, true, true, true, true, true, false, false] rfl rfl (any_of HT_.out (by kernel_rfl)) (fun _ _ _ h => h) (Or.inl ⟨by rfl, ?_⟩) ?_ ?_
                        rotate_left
                        · intro w'
                          go_simp
                          with_reducible rfl
                        rotate_left
                        · simp only [Act.put, List.setIfInBounds_toArray, List.set_cons_zero, List.set_cons_succ, i64_w, i32_w]
                          rfl
                        refine pure_ (i := 9) (N := some 89) (v := ?_) (a' := ?_) #[true, true, true, true, true, true, true, true, true, true, false] rfl rfl (any_of HT_.out (by kernel_rfl)) (fun _ _ _ h => h) (Or.inl ⟨by rfl, ?_⟩) ?_ ?_
                        rotate_left
                        · intro w'
                          go_simp
                          with_reducible rfl
                        rotate_left
                        · simp only [Act.put, List.setIfInBounds_toArray, List.set_cons_zero, List.set_cons_succ, i64_w, i32_w]
                          rfl
                        refine last_ (i := 10) (N := none) #[true, true, true, true, true, true, true, true, true, true, true] rfl rfl (one_of HT_.out (by kernel_rfl)) (by decide) (fun K hK => ?_)
                        refine skip_ (w1 := ?_) (by rfl) rfl ?_ ?_
                        rotate_left
                        · go_simp
                          rfl
                        refine hK.out _ _ ?_
                        clear hK K
                        refine done_ (done_of HT_.out (by kernel_rfl)) ?_
                        try go_wp2_with (first | ((with_reducible refine gate_callee (f := 16) rfl ?_); refine goesL_ (some 93) rfl rfl Try.func16 (by kernel_rfl) rfl #[.int .i64 t281, .slice (some ⟨go32, 0, none⟩) y300.length co18] rfl (by (try simp only [List.map_toArray, List.map_cons, List.map_nil]); first | done | (rw [show y300.length = t290.length from (Kd.R_reads' HQ36.out).1.symm] <;> rfl) | rfl | (simp only [List.length_drop, List.length_take]; rfl)) ?_; (with_reducible refine (impl_DecodePage.calls kj12 t281 _ _ y300 t301 t302 true _ ?side1 ?side2 A33.out).mono ?_); (case side1 => refine (Kd.R_reads' (e := 5) (base := w.heap.size) (ok := fun k_ => True) (n := t290.length) (c := co18) ?_).2.2; exact (by (with_reducible repeat (first | apply Kd.R_alloc | apply Kd.R_drewN | apply Kd.R_drew)); exact HQ36.out)); (case side2 => rw [show y300.length = t290.length from (Kd.R_reads' HQ36.out).1.symm]; exact (Kd.R_reads' HO_8.out).2.1); rintro e w37 ⟨v304, rfl, ho0, hb⟩; refine ⟨_, rfl, ?_⟩; have n0_ := Aside0.mk (Kd.R_elder' (by (with_reducible repeat (first | apply Kd.R_alloc | apply Kd.R_drewN | apply Kd.R_drew)); exact HQ36.out) (Kd.R_base ho0) hb); have n1_ := Aside0.mk (Kd.R_lower (Kd.R_new' ho0 (Kd.R_lt (by (with_reducible repeat (first | apply Kd.R_alloc | apply Kd.R_drewN | apply Kd.R_drew)); exact HQ36.out))) (below_size (by repeat (first | (with_reducible first | exact HB.out | apply below_alloc | apply pw_below_drewN | apply below_drew1 | refine below_set ?_ GB32.out) | exact HB.out)))); have n2_ := Aside0.mk (below_step (by repeat (first | (with_reducible first | exact HB.out | apply below_alloc | apply pw_below_drewN | apply below_drew1 | refine below_set ?_ GB32.out) | exact HB.out)) hb); clear HO_8; clear HB; have HO_8 := n0_; have HO305 := n1_; have HB := n2_; clear n0_ n1_ n2_; (try clear hb); (try clear hb2); (try clear hk); (try clear hi); (try clear ho0)))
                        go_ret
                        exact ⟨by first | rfl | (simp [errW_none, errW_some] <;> rfl) | (simp only [← hji26, ← hji29, ← hji31]; first | rfl | (simp [errW_none, errW_some] <;> rfl)) | (simp [*, errW_none, errW_some] <;> rfl), by repeat (first | (with_reducible first | exact HB.out | apply below_alloc | apply pw_below_drewN | apply below_drew1) | exact HB.out)⟩
                      · replace c34 := Bool.eq_false_iff.mpr c34
                        subst c34
                        have H1 : ((spec_DrawDecodePage.f kj12 l0).bind fun bt306 => ((spec_DecodePage.f kj12 bt306.1 bt306.2).bind fun bt310 => ((impl_DecodePage.f kj12 bt306.1 bt306.2).bind fun bt315 => (if (bt315.2.2 == bt310.2.2) = true then (if bt315.1 = bt310.1 then (some ((strOfNums bt315.2.1).toList == (strOfNums bt310.2.1).toList)) else (some false)) else (some false))))) = some r := by rw [if_neg (show ¬ (false = true) by decide)] at H; exact H
                        clear H
                        have H := H1
                        clear H1
                        replace H := Option.bind_eq_some_iff.mp H
                        obtain ⟨⟨t306, t307⟩, A380, H⟩ := H
                        replace H : ((spec_DecodePage.f kj12 t306 t307).bind fun bt310 => ((impl_DecodePage.f kj12 t306 t307).bind fun bt315 => (if (bt315.2.2 == bt310.2.2) = true then (if bt315.1 = bt310.1 then (some ((strOfNums bt315.2.1).toList == (strOfNums bt310.2.1).toList)) else (some false)) else (some false)))) = some r := H
                        have A38 := Aside0.mk A380
                        clear A380
                        replace H := Option.bind_eq_some_iff.mp H
                        obtain ⟨⟨t310, t311, t312⟩, A390, H⟩ := H
                        replace H : ((impl_DecodePage.f kj12 t306 t307).bind fun bt315 => (if (bt315.2.2 == t312) = true then (if bt315.1 = t310 then (some ((strOfNums bt315.2.1).toList == (strOfNums t311).toList)) else (some false)) else (some false))) = some r := H
                        have A39 := Aside0.mk A390
                        clear A390
                        replace H := Option.bind_eq_some_iff.mp H
                        obtain ⟨⟨t315, t316, t317⟩, A400, H⟩ := H
                        replace H : (if (t317 == t312) = true then (if t315 = t310 then (some ((strOfNums t316).toList == (strOfNums t311).toList)) else (some false)) else (some false)) = some r := H
                        have A40 := Aside0.mk A400
                        clear A400
                        by_cases c41 : (t317 == t312) = true
                        · rw [if_pos c41] at H
                          have c41b0 : (t317 == t312) = true := c41
                          (try (have c41b1 : decide (t317 = t312) = true := by simpa using c41))
                          (try (have c41b2 : (t317 == t312) = true := by simpa using c41))
                          clear c41
                          by_cases c42 : t315 = t310
                          · rw [if_pos c42] at H
                            have c42b0 : (t315 == t310) = true := beq_iff_eq.mpr c42
                            have c42b1 : (t315 != t310) = false := bne_eq_false_iff_eq.mpr c42
                            clear c42
                            obtain rfl := Option.some.inj H
                            try go_wp2
                            have n0_ := Aside0.mk (Kd.R_drew HO_8.out)
                            have n1_ := Aside0.mk (below_drew1 HB.out)
                            clear HO_8
                            clear HB
                            have HO_8 := n0_
                            have HB := n1_
                            clear n0_ n1_
                            have p299 : 0 ≤ ((ji26) : Int) := of_decide_eq_true (by first | (with_reducible assumption) | assumption)
                            have q299 : (ji26) < (t290.length : Int) := of_decide_eq_true (by first | (with_reducible assumption) | assumption)
                            obtain ⟨ad299, e299, hx299_0⟩ := Kd.at_int (Kd.R_reads' HO_8.out).2.2 (ji26) p299 q299
                            cases e299
                            replace p299 := eq_true p299
                            replace q299 := eq_true q299
                            have p32 : 0 ≤ ((ji26) : Int) := of_decide_eq_true (by first | (with_reducible assumption) | assumption)
                            have q32 : ((ji26) : Int) < ((t290.length : Int) : Int) := of_decide_eq_true (by first | (with_reducible assumption) | assumption)
                            obtain ⟨go32, co32, eo32, gb32, gl32, cl32, HG32⟩ := Kd.R_form HO_8.out (by omega)
                            (first | cases eo32 | (injection eo32 with ea_ en_ ec_; (first | subst ea_ | (injection ea_ with ea_; subst ea_)); subst ec_; clear en_))
                            have GB32 := Aside0.mk gb32
                            have GG32 := Aside0.mk HG32
                            clear gb32 gl32 HG32
                            (first | simp only [add_plain] at hx299_0 | skip)
                            obtain ⟨hx32_0, hf32_0⟩ := Kd.R_celln 0 HO_8.out ((ji26) : Int) p32 q32
                            replace p32 := eq_true p32
                            replace q32 := eq_true q32
                            have HP44 := Kd.R_putn HO_8.out ((ji26) : Int) (Go.bits .xor .u8 (rd t290 (ji26)) (ji31))
                            rw [← Ny300.out] at HP44
                            have HQ44 := Aside0.mk HP44
                            clear HP44
                            refine start_ (n := 11) (S := fun w' => w'.cell? ⟨go32, ((ji26)).toNat, none⟩ = some (.int .u8 (rd t290 (ji26)))) (ds := [10]) #[false, false, false, false, false, false, false, false, false, false, false] (by kernel_rfl) rfl rfl (hx299_0) (fun hHeld => ?_); refine with_tabW laws_FnPage.tab13 laws_FnPage.bits13 (fun HT_ HW_ => ?_)
                            generalize wc.drew = w43 at HO_8 HB GG32 HQ44 hf32_0 hx299_0 hx32_0 hHeld ⊢
                            refine pure_ (i := 0) (N := some 80) (v := ?_) (a' := ?_) #[true, false, false, false, false, false, false, false, false, false, false] rfl rfl (any_of HT_.out (by kernel_rfl)) (fun _ _ _ h => h) (Or.inl ⟨by rfl, ?_⟩) ?_ ?_
                            rotate_left
                            · intro w'
                              go_simp
                              with_reducible rfl
                            rotate_left
                            · simp only [Act.put, List.setIfInBounds_toArray, List.set_cons_zero, List.set_cons_succ, i64_w, i32_w]
                              rfl
                            refine pure_ (i := 1) (N := some 81) (v := ?_) (a' := ?_) #[true, true, false, false, false, false, false, false, false, false, false] rfl rfl (any_of HT_.out (by kernel_rfl)) (fun _ _ _ h => h) (Or.inl ⟨by rfl, ?_⟩) ?_ ?_
                            rotate_left
                            · intro w'
                              go_simp
                              with_reducible rfl
                            rotate_left
                            · simp only [Act.put, List.setIfInBounds_toArray, List.set_cons_zero, List.set_cons_succ, i64_w, i32_w]
                              rfl
                            refine pure_ (i := 2) (N := some 82) (v := ?_) (a' := ?_) #[true, true, true, false, false, false, false, false, false, false, false] rfl rfl (any_of HT_.out (by kernel_rfl)) (fun _ _ _ h => h) (Or.inl ⟨by rfl, ?_⟩) ?_ ?_
                            rotate_left
                            · intro w'
                              go_simp
                              with_reducible rfl
                            rotate_left
                            · simp only [Act.put, List.setIfInBounds_toArray, List.set_cons_zero, List.set_cons_succ, i64_w, i32_w]
                              rfl
                            refine pure_ (i := 3) (N := some 83) (v := ?_) (a' := ?_) #[true, true, true, true, false, false, false, false, false, false, false] rfl rfl (any_of HT_.out (by kernel_rfl)) (fun _ _ _ h => h) (Or.inl ⟨by rfl, ?_⟩) ?_ ?_
                            rotate_left
                            · intro w'
                              go_simp
                              with_reducible rfl
                            rotate_left
                            · simp only [Act.put, List.setIfInBounds_toArray, List.set_cons_zero, List.set_cons_succ, i64_w, i32_w]
                              rfl
                            refine pure_ (i := 5) (N := some 85) (v := ?_) (a' := ?_) #[true, true, true, true, false, true, false, false, false, false, false] rfl rfl (any_of HT_.out (by kernel_rfl)) (fun _ _ _ h => h) (Or.inl ⟨by rfl, ?_⟩) ?_ ?_
                            rotate_left
                            · intro w'
                              go_simp
                              with_reducible rfl
                            rotate_left
                            · simp only [Act.put, List.setIfInBounds_toArray, List.set_cons_zero, List.set_cons_succ, i64_w, i32_w]
                              rfl
                            refine pure_ (i := 6) (N := some 86) (v := ?_) (a' := ?_) #[true, true, true, true, false, true, true, false, false, false, false] rfl rfl (any_of HT_.out (by kernel_rfl)) (fun _ _ _ h => h) (Or.inl ⟨by rfl, ?_⟩) ?_ ?_
                            rotate_left
                            · intro w'
                              go_simp
                              with_reducible rfl
                            rotate_left
                            · simp only [Act.put, List.setIfInBounds_toArray, List.set_cons_zero, List.set_cons_succ, i64_w, i32_w]
                              rfl
                            refine pure_ (i := 7) (N := some 87) (v := ?_) (a' := ?_) #[true, true, true, true, false, true, true, true, false, false, false] rfl rfl (any_of HT_.out (by kernel_rfl)) (fun _ _ _ h => h) (Or.inl ⟨by rfl, ?_⟩) ?_ ?_
                            rotate_left
                            · intro w'
                              go_simp
                              with_reducible rfl
                            rotate_left
                            · simp only [Act.put, List.setIfInBounds_toArray, List.set_cons_zero, List.set_cons_succ, i64_w, i32_w]
                              rfl
                            refine take_ (i := 4) (N := some 84) (v := ?_) (a' := ?_) #[true, true, true, true, true, true, true, true, false, false, false] rfl rfl (take_ofW HT_.out HW_.out (by kernel_rfl)) (fun _ _ _ h => h) (Or.inl ⟨by rfl, ?_⟩) hHeld ?_ ?_
                            rotate_left
                            · intro w' s0
                              go_simp
                              with_reducible rfl
                            rotate_left
                            · simp only [Act.put, List.setIfInBounds_toArray, List.set_cons_zero, List.set_cons_succ, i64_w, i32_w]
                              rfl
                            refine pure_ (i := 8) (N := some 88) (v := ?_) (a' := ?_) #[true, true, true, true, true, true, true, true, true, false, false] rfl rfl (any_of HT_.out (by kernel_rfl)) (fun _ _ _ h => h) (Or.inl ⟨by rfl, ?_⟩) ?_ ?_
                            rotate_left
                            · intro w'
                              go_simp
                              with_reducible rfl
                            rotate_left
                            · simp only [Act.put, List.setIfInBounds_toArray, List.set_cons_zero, List.set_cons_succ, i64_w, i32_w]
                              rfl
                            refine pure_ (i := 9) (N := some 89) (v := ?_) (a' := ?_) #[true, true, true, true, true, true, true, true, true, true, false] rfl rfl (any_of HT_.out (by kernel_rfl)) (fun _ _ _ h => h) (Or.inl ⟨by rfl, ?_⟩) ?_ ?_
                            rotate_left
                            · intro w'
                              go_simp
                              with_reducible rfl
                            rotate_left
                            · simp only [Act.put, List.setIfInBounds_toArray, List.set_cons_zero, List.set_cons_succ, i64_w, i32_w]
                              rfl
                            refine last_ (i := 10) (N := none) #[true, true, true, true, true, true, true, true, true, true, true] rfl rfl (one_of HT_.out (by kernel_rfl)) (by decide) (fun K hK => ?_)
                            refine skip_ (w1 := ?_) (by rfl) rfl ?_ ?_
                            rotate_left
                            · go_simp
                              rfl
                            refine hK.out _ _ ?_
                            clear hK K
                            refine done_ (done_of HT_.out (by kernel_rfl)) ?_
                            try go_wp2_with (first | ((with_reducible refine gate_callee (f := 16) rfl ?_); refine goesL_ (some 93) rfl rfl Try.func16 (by kernel_rfl) rfl #[.int .i64 t281, .slice (some ⟨go32, 0, none⟩) y300.length co18] rfl (by (try simp only [List.map_toArray, List.map_cons, List.map_nil]); first | done | (rw [show y300.length = t290.length from (Kd.R_reads' HQ44.out).1.symm] <;> rfl) | rfl | (simp only [List.length_drop, List.length_take]; rfl)) ?_; (with_reducible refine (impl_DecodePage.calls kj12 t281 _ _ y300 t301 t302 false _ ?side1 ?side2 A33.out).mono ?_); (case side1 => refine (Kd.R_reads' (e := 5) (base := w.heap.size) (ok := fun k_ => True) (n := t290.length) (c := co18) ?_).2.2; exact (by (with_reducible repeat (first | apply Kd.R_alloc | apply Kd.R_drewN | apply Kd.R_drew)); exact HQ44.out)); (case side2 => rw [show y300.length = t290.length from (Kd.R_reads' HQ44.out).1.symm]; exact (Kd.R_reads' HO_8.out).2.1); rintro e w45 ⟨v304, rfl, ho0, hb⟩; refine ⟨_, rfl, ?_⟩; have n0_ := Aside0.mk (Kd.R_elder' (by (with_reducible repeat (first | apply Kd.R_alloc | apply Kd.R_drewN | apply Kd.R_drew)); exact HQ44.out) (Kd.R_base ho0) hb); have n1_ := Aside0.mk (Kd.R_lower (Kd.R_new' ho0 (Kd.R_lt (by (with_reducible repeat (first | apply Kd.R_alloc | apply Kd.R_drewN | apply Kd.R_drew)); exact HQ44.out))) (below_size (by repeat (first | (with_reducible first | exact HB.out | apply below_alloc | apply pw_below_drewN | apply below_drew1 | refine below_set ?_ GB32.out) | exact HB.out)))); have n2_ := Aside0.mk (below_step (by repeat (first | (with_reducible first | exact HB.out | apply below_alloc | apply pw_below_drewN | apply below_drew1 | refine below_set ?_ GB32.out) | exact HB.out)) hb); clear HO_8; clear HB; have HO_8 := n0_; have HO305 := n1_; have HB := n2_; clear n0_ n1_ n2_; (try clear hb); (try clear hb2); (try clear hk); (try clear hi); (try clear ho0)) | ((with_reducible refine gate_callee (f := 23) rfl ?_); refine goesL_ (some 100) rfl rfl Try.func23 (by kernel_rfl) rfl #[.slice A0 l0.length c0] rfl (by (try simp only [List.map_toArray, List.map_cons, List.map_nil]); first | done | rfl | (simp only [List.length_drop, List.length_take]; rfl)) ?_; (with_reducible refine (spec_DrawDecodePage.calls kj12 _ _ l0 t306 t307 _ ?side1 ?side2 A38.out).mono ?_); (case side1 => repeat (first | exact (Kd.C_below HR0.out HB.out) | (with_reducible refine Kd.C_alloc ?_ _) | (with_reducible refine Kd.C_drewN ?_ _) | (with_reducible refine Kd.C_drew ?_))); (case side2 => exact HC0.out); rintro e w46 ⟨v308, rfl, ho0, hb⟩; refine ⟨_, rfl, ?_⟩; have n0_ := Aside0.mk (Kd.R_elder' (by (with_reducible repeat (first | apply Kd.R_alloc | apply Kd.R_drewN | apply Kd.R_drew)); exact HO_8.out) (Kd.R_base ho0) hb); have n1_ := Aside0.mk (Kd.R_elder' (by (with_reducible repeat (first | apply Kd.R_alloc | apply Kd.R_drewN | apply Kd.R_drew)); exact HO305.out) (Kd.R_base ho0) hb); have n2_ := Aside0.mk (Kd.R_lower (Kd.R_new' (Kd.R_new' ho0 (Kd.R_lt (by (with_reducible repeat (first | apply Kd.R_alloc | apply Kd.R_drewN | apply Kd.R_drew)); exact HO_8.out))) (Kd.R_lt (by (with_reducible repeat (first | apply Kd.R_alloc | apply Kd.R_drewN | apply Kd.R_drew)); exact HO305.out))) (below_size (by repeat (first | (with_reducible first | exact HB.out | apply below_alloc | apply pw_below_drewN | apply below_drew1) | exact HB.out)))); have n3_ := Aside0.mk (below_step (by repeat (first | (with_reducible first | exact HB.out | apply below_alloc | apply pw_below_drewN | apply below_drew1) | exact HB.out)) hb); clear HO_8; clear HO305; clear HB; have HO_8 := n0_; have HO305 := n1_; have HO309 := n2_; have HB := n3_; clear n0_ n1_ n2_ n3_; (try clear hb); (try clear hb2); (try clear hk); (try clear hi); (try clear ho0); obtain ⟨Ao47, co47, eo47⟩ := Kd.R_slice HO309.out; subst eo47) | ((with_reducible refine gate_callee (f := 14) rfl ?_); refine goesL_ (some 106) rfl rfl Try.func14 (by kernel_rfl) rfl #[.int .i64 t306, .slice Ao47 t307.length co47] rfl (by (try simp only [List.map_toArray, List.map_cons, List.map_nil]); first | done | rfl | (simp only [List.length_drop, List.length_take]; rfl)) ?_; (with_reducible refine (spec_DecodePage.calls kj12 t306 _ _ t307 t310 t311 t312 _ ?side1 ?side2 A39.out).mono ?_); (case side1 => repeat (first | exact (Kd.R_reads' HO309.out).2.2 | (with_reducible refine Kd.C_alloc ?_ _) | (with_reducible refine Kd.C_drewN ?_ _) | (with_reducible refine Kd.C_drew ?_))); (case side2 => exact (Kd.R_reads' HO309.out).2.1); rintro e w48 ⟨v313, rfl, ho0, hb⟩; refine ⟨_, rfl, ?_⟩; have n0_ := Aside0.mk (Kd.R_elder' (by (with_reducible repeat (first | apply Kd.R_alloc | apply Kd.R_drewN | apply Kd.R_drew)); exact HO_8.out) (Kd.R_base ho0) hb); have n1_ := Aside0.mk (Kd.R_elder' (by (with_reducible repeat (first | apply Kd.R_alloc | apply Kd.R_drewN | apply Kd.R_drew)); exact HO305.out) (Kd.R_base ho0) hb); have n2_ := Aside0.mk (Kd.R_elder' (by (with_reducible repeat (first | apply Kd.R_alloc | apply Kd.R_drewN | apply Kd.R_drew)); exact HO309.out) (Kd.R_base ho0) hb); have n3_ := Aside0.mk (Kd.R_lower (Kd.R_new' (Kd.R_new' (Kd.R_new' ho0 (Kd.R_lt (by (with_reducible repeat (first | apply Kd.R_alloc | apply Kd.R_drewN | apply Kd.R_drew)); exact HO_8.out))) (Kd.R_lt (by (with_reducible repeat (first | apply Kd.R_alloc | apply Kd.R_drewN | apply Kd.R_drew)); exact HO305.out))) (Kd.R_lt (by (with_reducible repeat (first | apply Kd.R_alloc | apply Kd.R_drewN | apply Kd.R_drew)); exact HO309.out))) (below_size (by repeat (first | (with_reducible first | exact HB.out | apply below_alloc | apply pw_below_drewN | apply below_drew1) | exact HB.out)))); have n4_ := Aside0.mk (below_step (by repeat (first | (with_reducible first | exact HB.out | apply below_alloc | apply pw_below_drewN | apply below_drew1) | exact HB.out)) hb); clear HO_8; clear HO305; clear HO309; clear HB; have HO_8 := n0_; have HO305 := n1_; have HO309 := n2_; have HO314 := n3_; have HB := n4_; clear n0_ n1_ n2_ n3_ n4_; (try clear hb); (try clear hb2); (try clear hk); (try clear hi); (try clear ho0)) | ((with_reducible refine gate_callee (f := 16) rfl ?_); refine goesL_ (some 113) rfl rfl Try.func16 (by kernel_rfl) rfl #[.int .i64 t306, .slice Ao47 t307.length co47] rfl (by (try simp only [List.map_toArray, List.map_cons, List.map_nil]); first | done | rfl | (simp only [List.length_drop, List.length_take]; rfl)) ?_; (with_reducible refine (impl_DecodePage.calls kj12 t306 _ _ t307 t315 t316 t317 _ ?side1 ?side2 A40.out).mono ?_); (case side1 => repeat (first | exact (Kd.R_reads' HO309.out).2.2 | (with_reducible refine Kd.C_alloc ?_ _) | (with_reducible refine Kd.C_drewN ?_ _) | (with_reducible refine Kd.C_drew ?_))); (case side2 => exact (Kd.R_reads' HO309.out).2.1); rintro e w49 ⟨v318, rfl, ho0, hb⟩; refine ⟨_, rfl, ?_⟩; have n0_ := Aside0.mk (Kd.R_elder' (by (with_reducible repeat (first | apply Kd.R_alloc | apply Kd.R_drewN | apply Kd.R_drew)); exact HO_8.out) (Kd.R_base ho0) hb); have n1_ := Aside0.mk (Kd.R_elder' (by (with_reducible repeat (first | apply Kd.R_alloc | apply Kd.R_drewN | apply Kd.R_drew)); exact HO305.out) (Kd.R_base ho0) hb); have n2_ := Aside0.mk (Kd.R_elder' (by (with_reducible repeat (first | apply Kd.R_alloc | apply Kd.R_drewN | apply Kd.R_drew)); exact HO309.out) (Kd.R_base ho0) hb); have n3_ := Aside0.mk (Kd.R_elder' (by (with_reducible repeat (first | apply Kd.R_alloc | apply Kd.R_drewN | apply Kd.R_drew)); exact HO314.out) (Kd.R_base ho0) hb); have n4_ := Aside0.mk (Kd.R_lower (Kd.R_new' (Kd.R_new' (Kd.R_new' (Kd.R_new' ho0 (Kd.R_lt (by (with_reducible repeat (first | apply Kd.R_alloc | apply Kd.R_drewN | apply Kd.R_drew)); exact HO_8.out))) (Kd.R_lt (by (with_reducible repeat (first | apply Kd.R_alloc | apply Kd.R_drewN | apply Kd.R_drew)); exact HO305.out))) (Kd.R_lt (by (with_reducible repeat (first | apply Kd.R_alloc | apply Kd.R_drewN | apply Kd.R_drew)); exact HO309.out))) (Kd.R_lt (by (with_reducible repeat (first | apply Kd.R_alloc | apply Kd.R_drewN | apply Kd.R_drew)); exact HO314.out))) (below_size (by repeat (first | (with_reducible first | exact HB.out | apply below_alloc | apply pw_below_drewN | apply below_drew1) | exact HB.out)))); have n5_ := Aside0.mk (below_step (by repeat (first | (with_reducible first | exact HB.out | apply below_alloc | apply pw_below_drewN | apply below_drew1) | exact HB.out)) hb); clear HO_8; clear HO305; clear HO309; clear HO314; clear HB; have HO_8 := n0_; have HO305 := n1_; have HO309 := n2_; have HO314 := n3_; have HO319 := n4_; have HB := n5_; clear n0_ n1_ n2_ n3_ n4_ n5_; (try clear hb); (try clear hb2); (try clear hk); (try clear hi); (try clear ho0); have hcv50 := own_string (P := Try.prog) Try.underlying22 Try.underlying5 Try.underlying9 (Kd.own_of_R HO319.out); have hcv51 := own_string (P := Try.prog) Try.underlying22 Try.underlying5 Try.underlying9 (Kd.own_of_R HO314.out)))
                            go_ret
                            exact ⟨by first | rfl | (simp [errW_none, errW_some] <;> rfl) | (simp only [← hji26, ← hji29, ← hji31]; first | rfl | (simp [errW_none, errW_some] <;> rfl)) | (simp [*, errW_none, errW_some] <;> rfl), by repeat (first | (with_reducible first | exact HB.out | apply below_alloc | apply pw_below_drewN | apply below_drew1) | exact HB.out)⟩
                          · rw [if_neg c42] at H
                            have c42b0 : (t315 == t310) = false := beq_eq_false_iff_ne.mpr c42
                            have c42b1 : (t315 != t310) = true := bne_iff_ne.mpr c42
                            obtain rfl := Option.some.inj H
                            try go_wp2
                            have n0_ := Aside0.mk (Kd.R_drew HO_8.out)
                            have n1_ := Aside0.mk (below_drew1 HB.out)
                            clear HO_8
                            clear HB
                            have HO_8 := n0_
                            have HB := n1_
                            clear n0_ n1_
                            have p299 : 0 ≤ ((ji26) : Int) := of_decide_eq_true (by first | (with_reducible assumption) | assumption)
                            have q299 : (ji26) < (t290.length : Int) := of_decide_eq_true (by first | (with_reducible assumption) | assumption)
                            obtain ⟨ad299, e299, hx299_0⟩ := Kd.at_int (Kd.R_reads' HO_8.out).2.2 (ji26) p299 q299
                            cases e299
                            replace p299 := eq_true p299
                            replace q299 := eq_true q299
                            have p32 : 0 ≤ ((ji26) : Int) := of_decide_eq_true (by first | (with_reducible assumption) | assumption)
                            have q32 : ((ji26) : Int) < ((t290.length : Int) : Int) := of_decide_eq_true (by first | (with_reducible assumption) | assumption)
                            obtain ⟨go32, co32, eo32, gb32, gl32, cl32, HG32⟩ := Kd.R_form HO_8.out (by omega)
                            (first | cases eo32 | (injection eo32 with ea_ en_ ec_; (first | subst ea_ | (injection ea_ with ea_; subst ea_)); subst ec_; clear en_))
                            have GB32 := Aside0.mk gb32
                            have GG32 := Aside0.mk HG32
                            clear gb32 gl32 HG32
                            (first | simp only [add_plain] at hx299_0 | skip)
                            obtain ⟨hx32_0, hf32_0⟩ := Kd.R_celln 0 HO_8.out ((ji26) : Int) p32 q32
                            replace p32 := eq_true p32
                            replace q32 := eq_true q32
                            have HP53 := Kd.R_putn HO_8.out ((ji26) : Int) (Go.bits .xor .u8 (rd t290 (ji26)) (ji31))
                            rw [← Ny300.out] at HP53
                            have HQ53 := Aside0.mk HP53
                            clear HP53
                            refine start_ (n := 11) (S := fun w' => w'.cell? ⟨go32, ((ji26)).toNat, none⟩ = some (.int .u8 (rd t290 (ji26)))) (ds := [10]) #[false, false, false, false, false, false, false, false, false, false, false] (by kernel_rfl) rfl rfl (hx299_0) (fun hHeld => ?_); refine with_tabW laws_FnPage.tab13 laws_FnPage.bits13 (fun HT_ HW_ => ?_)
                            generalize wc.drew = w52 at HO_8 HB GG32 HQ53 hf32_0 hx299_0 hx32_0 hHeld ⊢
                            refine pure_ (i := 0) (N := some 80) (v := ?_) (a' := ?_) #[true, false, false, false, false, false, false, false, false, false, false] rfl rfl (any_of HT_.out (by kernel_rfl)) (fun _ _ _ h => h) (Or.inl ⟨by rfl, ?_⟩) ?_ ?_
                            rotate_left
                            · intro w'
                              go_simp
                              with_reducible rfl
                            rotate_left
                            · simp only [Act.put, List.setIfInBounds_toArray, List.set_cons_zero, List.set_cons_succ, i64_w, i32_w]
                              rfl
                            refine pure_ (i := 1) (N := some 81) (v := ?_) (a' := ?_) #[true, true, false, false, false, false, false, false, false, false, false] rfl rfl (any_of HT_.out (by kernel_rfl)) (fun _ _ _ h => h) (Or.inl ⟨by rfl, ?_⟩) ?_ ?_
                            rotate_left
                            · intro w'
                              go_simp
                              with_reducible rfl
                            rotate_left
                            · simp only [Act.put, List.setIfInBounds_toArray, List.set_cons_zero, List.set_cons_succ, i64_w, i32_w]
                              rfl
                            refine pure_ (i := 2) (N := some 82) (v := ?_) (a' := ?_) #[true, true, true, false, false, false, false, false, false, false, false] rfl rfl (any_of HT_.out (by kernel_rfl)) (fun _ _ _ h => h) (Or.inl ⟨by rfl, ?_⟩) ?_ ?_
                            rotate_left
                            · intro w'
                              go_simp
                              with_reducible rfl
                            rotate_left
                            · simp only [Act.put, List.setIfInBounds_toArray, List.set_cons_zero, List.set_cons_succ, i64_w, i32_w]
                              rfl
                            refine pure_ (i := 3) (N := some 83) (v := ?_) (a' := ?_) #[true, true, true, true, false, false, false, false, false, false, false] rfl rfl (any_of HT_.out (by kernel_rfl)) (fun _ _ _ h => h) (Or.inl ⟨by rfl, ?_⟩) ?_ ?_
                            rotate_left
                            · intro w'
                              go_simp
                              with_reducible rfl
                            rotate_left
                            · simp only [Act.put, List.setIfInBounds_toArray, List.set_cons_zero, List.set_cons_succ, i64_w, i32_w]
                              rfl
                            refine pure_ (i := 5) (N := some 85) (v := ?_) (a' := ?_) #[true, true, true, true, false, true, false, false, false, false, false] rfl rfl (any_of HT_.out (by kernel_rfl)) (fun _ _ _ h => h) (Or.inl ⟨by rfl, ?_⟩) ?_ ?_
                            rotate_left
                            · intro w'
                              go_simp
                              with_reducible rfl
                            rotate_left
                            · simp only [Act.put, List.setIfInBounds_toArray, List.set_cons_zero, List.set_cons_succ, i64_w, i32_w]
                              rfl
                            refine pure_ (i := 6) (N := some 86) (v := ?_) (a' := ?_) #[true, true, true, true, false, true, true, false, false, false, false] rfl rfl (any_of HT_.out (by kernel_rfl)) (fun _ _ _ h => h) (Or.inl ⟨by rfl, ?_⟩) ?_ ?_
                            rotate_left
                            · intro w'
                              go_simp
                              with_reducible rfl
                            rotate_left
                            · simp only [Act.put, List.setIfInBounds_toArray, List.set_cons_zero, List.set_cons_succ, i64_w, i32_w]
                              rfl
                            refine pure_ (i := 7) (N := some 87) (v := ?_) (a' := ?_) #[true, true, true, true, false, true, true, true, false, false, false] rfl rfl (any_of HT_.out (by kernel_rfl)) (fun _ _ _ h => h) (Or.inl ⟨by rfl, ?_⟩) ?_ ?_
                            rotate_left
                            · intro w'
                              go_simp
                              with_reducible rfl
                            rotate_left
                            · simp only [Act.put, List.setIfInBounds_toArray, List.set_cons_zero, List.set_cons_succ, i64_w, i32_w]
                              rfl
                            refine take_ (i := 4) (N := some 84) (v := ?_) (a' := ?_) #[true, true, true, true, true, true, true, true, false, false, false] rfl rfl (take_ofW HT_.out HW_.out (by kernel_rfl)) (fun _ _ _ h => h) (Or.inl ⟨by rfl, ?_⟩) hHeld ?_ ?_
                            rotate_left
                            · intro w' s0
                              go_simp
                              with_reducible rfl
                            rotate_left
                            · simp only [Act.put, List.setIfInBounds_toArray, List.set_cons_zero, List.set_cons_succ, i64_w, i32_w]
                              rfl
                            refine pure_ (i := 8) (N := some 88) (v := ?_) (a' := ?_) #[true, true, true, true, true, true, true, true, true, false, false] rfl rfl (any_of HT_.out (by kernel_rfl)) (fun _ _ _ h => h) (Or.inl ⟨by rfl, ?_⟩) ?_ ?_
                            rotate_left
                            · intro w'
                              go_simp
                              with_reducible rfl
                            rotate_left
                            · simp only [Act.put, List.setIfInBounds_toArray, List.set_cons_zero, List.set_cons_succ, i64_w, i32_w]
                              rfl
                            refine pure_ (i := 9) (N := some 89) (v := ?_) (a' := ?_) #[true, true, true, true, true, true, true, true, true, true, false] rfl rfl (any_of HT_.out (by kernel_rfl)) (fun _ _ _ h => h) (Or.inl ⟨by rfl, ?_⟩) ?_ ?_
                            rotate_left
                            · intro w'
                              go_simp
                              with_reducible rfl
                            rotate_left
                            · simp only [Act.put, List.setIfInBounds_toArray, List.set_cons_zero, List.set_cons_succ, i64_w, i32_w]
                              rfl
                            refine last_ (i := 10) (N := none) #[true, true, true, true, true, true, true, true, true, true, true] rfl rfl (one_of HT_.out (by kernel_rfl)) (by decide) (fun K hK => ?_)
                            refine skip_ (w1 := ?_) (by rfl) rfl ?_ ?_
                            rotate_left
                            · go_simp
                              rfl
                            refine hK.out _ _ ?_
                            clear hK K
                            refine done_ (done_of HT_.out (by kernel_rfl)) ?_
                            try go_wp2_with (first | ((with_reducible refine gate_callee (f := 16) rfl ?_); refine goesL_ (some 93) rfl rfl Try.func16 (by kernel_rfl) rfl #[.int .i64 t281, .slice (some ⟨go32, 0, none⟩) y300.length co18] rfl (by (try simp only [List.map_toArray, List.map_cons, List.map_nil]); first | done | (rw [show y300.length = t290.length from (Kd.R_reads' HQ53.out).1.symm] <;> rfl) | rfl | (simp only [List.length_drop, List.length_take]; rfl)) ?_; (with_reducible refine (impl_DecodePage.calls kj12 t281 _ _ y300 t301 t302 false _ ?side1 ?side2 A33.out).mono ?_); (case side1 => refine (Kd.R_reads' (e := 5) (base := w.heap.size) (ok := fun k_ => True) (n := t290.length) (c := co18) ?_).2.2; exact (by (with_reducible repeat (first | apply Kd.R_alloc | apply Kd.R_drewN | apply Kd.R_drew)); exact HQ53.out)); (case side2 => rw [show y300.length = t290.length from (Kd.R_reads' HQ53.out).1.symm]; exact (Kd.R_reads' HO_8.out).2.1); rintro e w54 ⟨v304, rfl, ho0, hb⟩; refine ⟨_, rfl, ?_⟩; have n0_ := Aside0.mk (Kd.R_elder' (by (with_reducible repeat (first | apply Kd.R_alloc | apply Kd.R_drewN | apply Kd.R_drew)); exact HQ53.out) (Kd.R_base ho0) hb); have n1_ := Aside0.mk (Kd.R_lower (Kd.R_new' ho0 (Kd.R_lt (by (with_reducible repeat (first | apply Kd.R_alloc | apply Kd.R_drewN | apply Kd.R_drew)); exact HQ53.out))) (below_size (by repeat (first | (with_reducible first | exact HB.out | apply below_alloc | apply pw_below_drewN | apply below_drew1 | refine below_set ?_ GB32.out) | exact HB.out)))); have n2_ := Aside0.mk (below_step (by repeat (first | (with_reducible first | exact HB.out | apply below_alloc | apply pw_below_drewN | apply below_drew1 | refine below_set ?_ GB32.out) | exact HB.out)) hb); clear HO_8; clear HB; have HO_8 := n0_; have HO305 := n1_; have HB := n2_; clear n0_ n1_ n2_; (try clear hb); (try clear hb2); (try clear hk); (try clear hi); (try clear ho0)) | ((with_reducible refine gate_callee (f := 23) rfl ?_); refine goesL_ (some 100) rfl rfl Try.func23 (by kernel_rfl) rfl #[.slice A0 l0.length c0] rfl (by (try simp only [List.map_toArray, List.map_cons, List.map_nil]); first | done | rfl | (simp only [List.length_drop, List.length_take]; rfl)) ?_; (with_reducible refine (spec_DrawDecodePage.calls kj12 _ _ l0 t306 t307 _ ?side1 ?side2 A38.out).mono ?_); (case side1 => repeat (first | exact (Kd.C_below HR0.out HB.out) | (with_reducible refine Kd.C_alloc ?_ _) | (with_reducible refine Kd.C_drewN ?_ _) | (with_reducible refine Kd.C_drew ?_))); (case side2 => exact HC0.out); rintro e w55 ⟨v308, rfl, ho0, hb⟩; refine ⟨_, rfl, ?_⟩; have n0_ := Aside0.mk (Kd.R_elder' (by (with_reducible repeat (first | apply Kd.R_alloc | apply Kd.R_drewN | apply Kd.R_drew)); exact HO_8.out) (Kd.R_base ho0) hb); have n1_ := Aside0.mk (Kd.R_elder' (by (with_reducible repeat (first | apply Kd.R_alloc | apply Kd.R_drewN | apply Kd.R_drew)); exact HO305.out) (Kd.R_base ho0) hb); have n2_ := Aside0.mk (Kd.R_lower (Kd.R_new' (Kd.R_new' ho0 (Kd.R_lt (by (with_reducible repeat (first | apply Kd.R_alloc | apply Kd.R_drewN | apply Kd.R_drew)); exact HO_8.out))) (Kd.R_lt (by (with_reducible repeat (first | apply Kd.R_alloc | apply Kd.R_drewN | apply Kd.R_drew)); exact HO305.out))) (below_size (by repeat (first | (with_reducible first | exact HB.out | apply below_alloc | apply pw_below_drewN | apply below_drew1) | exact HB.out)))); have n3_ := Aside0.mk (below_step (by repeat (first | (with_reducible first | exact HB.out | apply below_alloc | apply pw_below_drewN | apply below_drew1) | exact HB.out)) hb); clear HO_8; clear HO305; clear HB; have HO_8 := n0_; have HO305 := n1_; have HO309 := n2_; have HB := n3_; clear n0_ n1_ n2_ n3_; (try clear hb); (try clear hb2); (try clear hk); (try clear hi); (try clear ho0); obtain ⟨Ao56, co56, eo56⟩ := Kd.R_slice HO309.out; subst eo56) | ((with_reducible refine gate_callee (f := 14) rfl ?_); refine goesL_ (some 106) rfl rfl Try.func14 (by kernel_rfl) rfl #[.int .i64 t306, .slice Ao56 t307.length co56] rfl (by (try simp only [List.map_toArray, List.map_cons, List.map_nil]); first | done | rfl | (simp only [List.length_drop, List.length_take]; rfl)) ?_; (with_reducible refine (spec_DecodePage.calls kj12 t306 _ _ t307 t310 t311 t312 _ ?side1 ?side2 A39.out).mono ?_); (case side1 => repeat (first | exact (Kd.R_reads' HO309.out).2.2 | (with_reducible refine Kd.C_alloc ?_ _) | (with_reducible refine Kd.C_drewN ?_ _) | (with_reducible refine Kd.C_drew ?_))); (case side2 => exact (Kd.R_reads' HO309.out).2.1); rintro e w57 ⟨v313, rfl, ho0, hb⟩; refine ⟨_, rfl, ?_⟩; have n0_ := Aside0.mk (Kd.R_elder' (by (with_reducible repeat (first | apply Kd.R_alloc | apply Kd.R_drewN | apply Kd.R_drew)); exact HO_8.out) (Kd.R_base ho0) hb); have n1_ := Aside0.mk (Kd.R_elder' (by (with_reducible repeat (first | apply Kd.R_alloc | apply Kd.R_drewN | apply Kd.R_drew)); exact HO305.out) (Kd.R_base ho0) hb); have n2_ := Aside0.mk (Kd.R_elder' (by (with_reducible repeat (first | apply Kd.R_alloc | apply Kd.R_drewN | apply Kd.R_drew)); exact HO309.out) (Kd.R_base ho0) hb); have n3_ := Aside0.mk (Kd.R_lower (Kd.R_new' (Kd.R_new' (Kd.R_new' ho0 (Kd.R_lt (by (with_reducible repeat (first | apply Kd.R_alloc | apply Kd.R_drewN | apply Kd.R_drew)); exact HO_8.out))) (Kd.R_lt (by (with_reducible repeat (first | apply Kd.R_alloc | apply Kd.R_drewN | apply Kd.R_drew)); exact HO305.out))) (Kd.R_lt (by (with_reducible repeat (first | apply Kd.R_alloc | apply Kd.R_drewN | apply Kd.R_drew)); exact HO309.out))) (below_size (by repeat (first | (with_reducible first | exact HB.out | apply below_alloc | apply pw_below_drewN | apply below_drew1) | exact HB.out)))); have n4_ := Aside0.mk (below_step (by repeat (first | (with_reducible first | exact HB.out | apply below_alloc | apply pw_below_drewN | apply below_drew1) | exact HB.out)) hb); clear HO_8; clear HO305; clear HO309; clear HB; have HO_8 := n0_; have HO305 := n1_; have HO309 := n2_; have HO314 := n3_; have HB := n4_; clear n0_ n1_ n2_ n3_ n4_; (try clear hb); (try clear hb2); (try clear hk); (try clear hi); (try clear ho0)) | ((with_reducible refine gate_callee (f := 16) rfl ?_); refine goesL_ (some 113) rfl rfl Try.func16 (by kernel_rfl) rfl #[.int .i64 t306, .slice Ao56 t307.length co56] rfl (by (try simp only [List.map_toArray, List.map_cons, List.map_nil]); first | done | rfl | (simp only [List.length_drop, List.length_take]; rfl)) ?_; (with_reducible refine (impl_DecodePage.calls kj12 t306 _ _ t307 t315 t316 t317 _ ?side1 ?side2 A40.out).mono ?_); (case side1 => repeat (first | exact (Kd.R_reads' HO309.out).2.2 | (with_reducible refine Kd.C_alloc ?_ _) | (with_reducible refine Kd.C_drewN ?_ _) | (with_reducible refine Kd.C_drew ?_))); (case side2 => exact (Kd.R_reads' HO309.out).2.1); rintro e w58 ⟨v318, rfl, ho0, hb⟩; refine ⟨_, rfl, ?_⟩; have n0_ := Aside0.mk (Kd.R_elder' (by (with_reducible repeat (first | apply Kd.R_alloc | apply Kd.R_drewN | apply Kd.R_drew)); exact HO_8.out) (Kd.R_base ho0) hb); have n1_ := Aside0.mk (Kd.R_elder' (by (with_reducible repeat (first | apply Kd.R_alloc | apply Kd.R_drewN | apply Kd.R_drew)); exact HO305.out) (Kd.R_base ho0) hb); have n2_ := Aside0.mk (Kd.R_elder' (by (with_reducible repeat (first | apply Kd.R_alloc | apply Kd.R_drewN | apply Kd.R_drew)); exact HO309.out) (Kd.R_base ho0) hb); have n3_ := Aside0.mk (Kd.R_elder' (by (with_reducible repeat (first | apply Kd.R_alloc | apply Kd.R_drewN | apply Kd.R_drew)); exact HO314.out) (Kd.R_base ho0) hb); have n4_ := Aside0.mk (Kd.R_lower (Kd.R_new' (Kd.R_new' (Kd.R_new' (Kd.R_new' ho0 (Kd.R_lt (by (with_reducible repeat (first | apply Kd.R_alloc | apply Kd.R_drewN | apply Kd.R_drew)); exact HO_8.out))) (Kd.R_lt (by (with_reducible repeat (first | apply Kd.R_alloc | apply Kd.R_drewN | apply Kd.R_drew)); exact HO305.out))) (Kd.R_lt (by (with_reducible repeat (first | apply Kd.R_alloc | apply Kd.R_drewN | apply Kd.R_drew)); exact HO309.out))) (Kd.R_lt (by (with_reducible repeat (first | apply Kd.R_alloc | apply Kd.R_drewN | apply Kd.R_drew)); exact HO314.out))) (below_size (by repeat (first | (with_reducible first | exact HB.out | apply below_alloc | apply pw_below_drewN | apply below_drew1) | exact HB.out)))); have n5_ := Aside0.mk (below_step (by repeat (first | (with_reducible first | exact HB.out | apply below_alloc | apply pw_below_drewN | apply below_drew1) | exact HB.out)) hb); clear HO_8; clear HO305; clear HO309; clear HO314; clear HB; have HO_8 := n0_; have HO305 := n1_; have HO309 := n2_; have HO314 := n3_; have HO319 := n4_; have HB := n5_; clear n0_ n1_ n2_ n3_ n4_ n5_; (try clear hb); (try clear hb2); (try clear hk); (try clear hi); (try clear ho0)))
                            go_ret
                            exact ⟨by first | rfl | (simp [errW_none, errW_some] <;> rfl) | (simp only [← hji26, ← hji29, ← hji31]; first | rfl | (simp [errW_none, errW_some] <;> rfl)) | (simp [*, errW_none, errW_some] <;> rfl), by repeat (first | (with_reducible first | exact HB.out | apply below_alloc | apply pw_below_drewN | apply below_drew1) | exact HB.out)⟩
                        · rw [if_neg c41] at H
                          have c41b0 : (t317 == t312) = false := by simpa using c41
                          (try (have c41b1 : decide (t317 = t312) = false := by simpa using c41))
                          (try (have c41b2 : (t317 == t312) = false := by simpa using c41))
                          (try (have c41b3 : ¬ (t317 = t312) := by simpa using c41))
                          clear c41
                          obtain rfl := Option.some.inj H
                          try go_wp2
                          have n0_ := Aside0.mk (Kd.R_drew HO_8.out)
                          have n1_ := Aside0.mk (below_drew1 HB.out)
                          clear HO_8
                          clear HB
                          have HO_8 := n0_
                          have HB := n1_
                          clear n0_ n1_
                          have p299 : 0 ≤ ((ji26) : Int) := of_decide_eq_true (by first | (with_reducible assumption) | assumption)
                          have q299 : (ji26) < (t290.length : Int) := of_decide_eq_true (by first | (with_reducible assumption) | assumption)
                          obtain ⟨ad299, e299, hx299_0⟩ := Kd.at_int (Kd.R_reads' HO_8.out).2.2 (ji26) p299 q299
                          cases e299
                          replace p299 := eq_true p299
                          replace q299 := eq_true q299
                          have p32 : 0 ≤ ((ji26) : Int) := of_decide_eq_true (by first | (with_reducible assumption) | assumption)
                          have q32 : ((ji26) : Int) < ((t290.length : Int) : Int) := of_decide_eq_true (by first | (with_reducible assumption) | assumption)
                          obtain ⟨go32, co32, eo32, gb32, gl32, cl32, HG32⟩ := Kd.R_form HO_8.out (by omega)
                          (first | cases eo32 | (injection eo32 with ea_ en_ ec_; (first | subst ea_ | (injection ea_ with ea_; subst ea_)); subst ec_; clear en_))
                          have GB32 := Aside0.mk gb32
                          have GG32 := Aside0.mk HG32
                          clear gb32 gl32 HG32
                          (first | simp only [add_plain] at hx299_0 | skip)
                          obtain ⟨hx32_0, hf32_0⟩ := Kd.R_celln 0 HO_8.out ((ji26) : Int) p32 q32
                          replace p32 := eq_true p32
                          replace q32 := eq_true q32
                          have HP60 := Kd.R_putn HO_8.out ((ji26) : Int) (Go.bits .xor .u8 (rd t290 (ji26)) (ji31))
                          rw [← Ny300.out] at HP60
                          have HQ60 := Aside0.mk HP60
                          clear HP60
                          refine start_ (n := 11) (S := fun w' => w'.cell? ⟨go32, ((ji26)).toNat, none⟩ = some (.int .u8 (rd t290 (ji26)))) (ds := [10]) #[false, false, false, false, false, false, false, false, false, false, false] (by kernel_rfl) rfl rfl (hx299_0) (fun hHeld => ?_); refine with_tabW laws_FnPage.tab13 laws_FnPage.bits13 (fun HT_ HW_ => ?_)
                          generalize wc.drew = w59 at HO_8 HB GG32 HQ60 hf32_0 hx299_0 hx32_0 hHeld ⊢
                          refine pure_ (i := 0) (N := some 80) (v := ?_) (a' := ?_) #[true, false, false, false, false, false, false, false, false, false, false] rfl rfl (any_of HT_.out (by kernel_rfl)) (fun _ _ _ h => h) (Or.inl ⟨by rfl, ?_⟩) ?_ ?_
                          rotate_left
                          · intro w'
                            go_simp
                            with_reducible rfl
                          rotate_left
                          · simp only [Act.put, List.setIfInBounds_toArray, List.set_cons_zero, List.set_cons_succ, i64_w, i32_w]
                            rfl
                          refine pure_ (i := 1) (N := some 81) (v := ?_) (a' := ?_) #[true, true, false, false, false, false, false, false, false, false, false] rfl rfl (any_of HT_.out (by kernel_rfl)) (fun _ _ _ h => h) (Or.inl ⟨by rfl, ?_⟩) ?_ ?_
                          rotate_left
                          · intro w'
                            go_simp
                            with_reducible rfl
                          rotate_left
                          · simp only [Act.put, List.setIfInBounds_toArray, List.set_cons_zero, List.set_cons_succ, i64_w, i32_w]
                            rfl
                          refine pure_ (i := 2) (N := some 82) (v := ?_) (a' := ?_) #[true, true, true, false, false, false, false, false, false, false, false] rfl rfl (any_of HT_.out (by kernel_rfl)) (fun _ _ _ h => h) (Or.inl ⟨by rfl, ?_⟩) ?_ ?_
                          rotate_left
                          · intro w'
                            go_simp
                            with_reducible rfl
                          rotate_left
                          · simp only [Act.put, List.setIfInBounds_toArray, List.set_cons_zero, List.set_cons_succ, i64_w, i32_w]
                            rfl
                          refine pure_ (i := 3) (N := some 83) (v := ?_) (a' := ?_) #[true, true, true, true, false, false, false, false, false, false, false] rfl rfl (any_of HT_.out (by kernel_rfl)) (fun _ _ _ h => h) (Or.inl ⟨by rfl, ?_⟩) ?_ ?_
                          rotate_left
                          · intro w'
                            go_simp
                            with_reducible rfl
                          rotate_left
                          · simp only [Act.put, List.setIfInBounds_toArray, List.set_cons_zero, List.set_cons_succ, i64_w, i32_w]
                            rfl
                          refine pure_ (i := 5) (N := some 85) (v := ?_) (a' := ?_) #[true, true, true, true, false, true, false, false, false, false, false] rfl rfl (any_of HT_.out (by kernel_rfl)) (fun _ _ _ h => h) (Or.inl ⟨by rfl, ?_⟩) ?_ ?_
                          rotate_left
                          · intro w'
                            go_simp
                            with_reducible rfl
                          rotate_left
                          · simp only [Act.put, List.setIfInBounds_toArray, List.set_cons_zero, List.set_cons_succ, i64_w, i32_w]
                            rfl
                          refine pure_ (i := 6) (N := some 86) (v := ?_) (a' := ?_) #[true, true, true, true, false, true, true, false, false, false, false] rfl rfl (any_of HT_.out (by kernel_rfl)) (fun _ _ _ h => h) (Or.inl ⟨by rfl, ?_⟩) ?_ ?_
                          rotate_left
                          · intro w'
                            go_simp
                            with_reducible rfl
                          rotate_left
                          · simp only [Act.put, List.setIfInBounds_toArray, List.set_cons_zero, List.set_cons_succ, i64_w, i32_w]
                            rfl
                          refine pure_ (i := 7) (N := some 87) (v := ?_) (a' := ?_) #[true, true, true, true, false, true, true, true, false, false, false] rfl rfl (any_of HT_.out (by kernel_rfl)) (fun _ _ _ h => h) (Or.inl ⟨by rfl, ?_⟩) ?_ ?_
                          rotate_left
                          · intro w'
                            go_simp
                            with_reducible rfl
                          rotate_left
                          · simp only [Act.put, List.setIfInBounds_toArray, List.set_cons_zero, List.set_cons_succ, i64_w, i32_w]
                            rfl
                          refine take_ (i := 4) (N := some 84) (v := ?_) (a' := ?_) #[true, true, true, true, true, true, true, true, false, false, false] rfl rfl (take_ofW HT_.out HW_.out (by kernel_rfl)) (fun _ _ _ h => h) (Or.inl ⟨by rfl, ?_⟩) hHeld ?_ ?_
                          rotate_left
                          · intro w' s0
                            go_simp
                            with_reducible rfl
                          rotate_left
                          · simp only [Act.put, List.setIfInBounds_toArray, List.set_cons_zero, List.set_cons_succ, i64_w, i32_w]
                            rfl
                          refine pure_ (i := 8) (N := some 88) (v := ?_) (a' := ?_) #[true, true, true, true, true, true, true, true, true, false, false] rfl rfl (any_of HT_.out (by kernel_rfl)) (fun _ _ _ h => h) (Or.inl ⟨by rfl, ?_⟩) ?_ ?_
                          rotate_left
                          · intro w'
                            go_simp
                            with_reducible rfl
                          rotate_left
                          · simp only [Act.put, List.setIfInBounds_toArray, List.set_cons_zero, List.set_cons_succ, i64_w, i32_w]
                            rfl
                          refine pure_ (i := 9) (N := some 89) (v := ?_) (a' := ?_) #[true, true, true, true, true, true, true, true, true, true, false] rfl rfl (any_of HT_.out (by kernel_rfl)) (fun _ _ _ h => h) (Or.inl ⟨by rfl, ?_⟩) ?_ ?_
                          rotate_left
                          · intro w'
                            go_simp
                            with_reducible rfl
                          rotate_left
                          · simp only [Act.put, List.setIfInBounds_toArray, List.set_cons_zero, List.set_cons_succ, i64_w, i32_w]
                            rfl
                          refine last_ (i := 10) (N := none) #[true, true, true, true, true, true, true, true, true, true, true] rfl rfl (one_of HT_.out (by kernel_rfl)) (by decide) (fun K hK => ?_)
                          refine skip_ (w1 := ?_) (by rfl) rfl ?_ ?_
                          rotate_left
                          · go_simp
                            rfl
                          refine hK.out _ _ ?_
                          clear hK K
                          refine done_ (done_of HT_.out (by kernel_rfl)) ?_
                          try go_wp2_with (first | ((with_reducible refine gate_callee (f := 16) rfl ?_); refine goesL_ (some 93) rfl rfl Try.func16 (by kernel_rfl) rfl #[.int .i64 t281, .slice (some ⟨go32, 0, none⟩) y300.length co18] rfl (by (try simp only [List.map_toArray, List.map_cons, List.map_nil]); first | done | (rw [show y300.length = t290.length from (Kd.R_reads' HQ60.out).1.symm] <;> rfl) | rfl | (simp only [List.length_drop, List.length_take]; rfl)) ?_; (with_reducible refine (impl_DecodePage.calls kj12 t281 _ _ y300 t301 t302 false _ ?side1 ?side2 A33.out).mono ?_); (case side1 => refine (Kd.R_reads' (e := 5) (base := w.heap.size) (ok := fun k_ => True) (n := t290.length) (c := co18) ?_).2.2; exact (by (with_reducible repeat (first | apply Kd.R_alloc | apply Kd.R_drewN | apply Kd.R_drew)); exact HQ60.out)); (case side2 => rw [show y300.length = t290.length from (Kd.R_reads' HQ60.out).1.symm]; exact (Kd.R_reads' HO_8.out).2.1); rintro e w61 ⟨v304, rfl, ho0, hb⟩; refine ⟨_, rfl, ?_⟩; have n0_ := Aside0.mk (Kd.R_elder' (by (with_reducible repeat (first | apply Kd.R_alloc | apply Kd.R_drewN | apply Kd.R_drew)); exact HQ60.out) (Kd.R_base ho0) hb); have n1_ := Aside0.mk (Kd.R_lower (Kd.R_new' ho0 (Kd.R_lt (by (with_reducible repeat (first | apply Kd.R_alloc | apply Kd.R_drewN | apply Kd.R_drew)); exact HQ60.out))) (below_size (by repeat (first | (with_reducible first | exact HB.out | apply below_alloc | apply pw_below_drewN | apply below_drew1 | refine below_set ?_ GB32.out) | exact HB.out)))); have n2_ := Aside0.mk (below_step (by repeat (first | (with_reducible first | exact HB.out | apply below_alloc | apply pw_below_drewN | apply below_drew1 | refine below_set ?_ GB32.out) | exact HB.out)) hb); clear HO_8; clear HB; have HO_8 := n0_; have HO305 := n1_; have HB := n2_; clear n0_ n1_ n2_; (try clear hb); (try clear hb2); (try clear hk); (try clear hi); (try clear ho0)) | ((with_reducible refine gate_callee (f := 23) rfl ?_); refine goesL_ (some 100) rfl rfl Try.func23 (by kernel_rfl) rfl #[.slice A0 l0.length c0] rfl (by (try simp only [List.map_toArray, List.map_cons, List.map_nil]); first | done | rfl | (simp only [List.length_drop, List.length_take]; rfl)) ?_; (with_reducible refine (spec_DrawDecodePage.calls kj12 _ _ l0 t306 t307 _ ?side1 ?side2 A38.out).mono ?_); (case side1 => repeat (first | exact (Kd.C_below HR0.out HB.out) | (with_reducible refine Kd.C_alloc ?_ _) | (with_reducible refine Kd.C_drewN ?_ _) | (with_reducible refine Kd.C_drew ?_))); (case side2 => exact HC0.out); rintro e w62 ⟨v308, rfl, ho0, hb⟩; refine ⟨_, rfl, ?_⟩; have n0_ := Aside0.mk (Kd.R_elder' (by (with_reducible repeat (first | apply Kd.R_alloc | apply Kd.R_drewN | apply Kd.R_drew)); exact HO_8.out) (Kd.R_base ho0) hb); have n1_ := Aside0.mk (Kd.R_elder' (by (with_reducible repeat (first | apply Kd.R_alloc | apply Kd.R_drewN | apply Kd.R_drew)); exact HO305.out) (Kd.R_base ho0) hb); have n2_ := Aside0.mk (Kd.R_lower (Kd.R_new' (Kd.R_new' ho0 (Kd.R_lt (by (with_reducible repeat (first | apply Kd.R_alloc | apply Kd.R_drewN | apply Kd.R_drew)); exact HO_8.out))) (Kd.R_lt (by (with_reducible repeat (first | apply Kd.R_alloc | apply Kd.R_drewN | apply Kd.R_drew)); exact HO305.out))) (below_size (by repeat (first | (with_reducible first | exact HB.out | apply below_alloc | apply pw_below_drewN | apply below_drew1) | exact HB.out)))); have n3_ := Aside0.mk (below_step (by repeat (first | (with_reducible first | exact HB.out | apply below_alloc | apply pw_below_drewN | apply below_drew1) | exact HB.out)) hb); clear HO_8; clear HO305; clear HB; have HO_8 := n0_; have HO305 := n1_; have HO309 := n2_; have HB := n3_; clear n0_ n1_ n2_ n3_; (try clear hb); (try clear hb2); (try clear hk); (try clear hi); (try clear ho0); obtain ⟨Ao63, co63, eo63⟩ := Kd.R_slice HO309.out; subst eo63) | ((with_reducible refine gate_callee (f := 14) rfl ?_); refine goesL_ (some 106) rfl rfl Try.func14 (by kernel_rfl) rfl #[.int .i64 t306, .slice Ao63 t307.length co63] rfl (by (try simp only [List.map_toArray, List.map_cons, List.map_nil]); first | done | rfl | (simp only [List.length_drop, List.length_take]; rfl)) ?_; (with_reducible refine (spec_DecodePage.calls kj12 t306 _ _ t307 t310 t311 t312 _ ?side1 ?side2 A39.out).mono ?_); (case side1 => repeat (first | exact (Kd.R_reads' HO309.out).2.2 | (with_reducible refine Kd.C_alloc ?_ _) | (with_reducible refine Kd.C_drewN ?_ _) | (with_reducible refine Kd.C_drew ?_))); (case side2 => exact (Kd.R_reads' HO309.out).2.1); rintro e w64 ⟨v313, rfl, ho0, hb⟩; refine ⟨_, rfl, ?_⟩; have n0_ := Aside0.mk (Kd.R_elder' (by (with_reducible repeat (first | apply Kd.R_alloc | apply Kd.R_drewN | apply Kd.R_drew)); exact HO_8.out) (Kd.R_base ho0) hb); have n1_ := Aside0.mk (Kd.R_elder' (by (with_reducible repeat (first | apply Kd.R_alloc | apply Kd.R_drewN | apply Kd.R_drew)); exact HO305.out) (Kd.R_base ho0) hb); have n2_ := Aside0.mk (Kd.R_elder' (by (with_reducible repeat (first | apply Kd.R_alloc | apply Kd.R_drewN | apply Kd.R_drew)); exact HO309.out) (Kd.R_base ho0) hb); have n3_ := Aside0.mk (Kd.R_lower (Kd.R_new' (Kd.R_new' (Kd.R_new' ho0 (Kd.R_lt (by (with_reducible repeat (first | apply Kd.R_alloc | apply Kd.R_drewN | apply Kd.R_drew)); exact HO_8.out))) (Kd.R_lt (by (with_reducible repeat (first | apply Kd.R_alloc | apply Kd.R_drewN | apply Kd.R_drew)); exact HO305.out))) (Kd.R_lt (by (with_reducible repeat (first | apply Kd.R_alloc | apply Kd.R_drewN | apply Kd.R_drew)); exact HO309.out))) (below_size (by repeat (first | (with_reducible first | exact HB.out | apply below_alloc | apply pw_below_drewN | apply below_drew1) | exact HB.out)))); have n4_ := Aside0.mk (below_step (by repeat (first | (with_reducible first | exact HB.out | apply below_alloc | apply pw_below_drewN | apply below_drew1) | exact HB.out)) hb); clear HO_8; clear HO305; clear HO309; clear HB; have HO_8 := n0_; have HO305 := n1_; have HO309 := n2_; have HO314 := n3_; have HB := n4_; clear n0_ n1_ n2_ n3_ n4_; (try clear hb); (try clear hb2); (try clear hk); (try clear hi); (try clear ho0)) | ((with_reducible refine gate_callee (f := 16) rfl ?_); refine goesL_ (some 113) rfl rfl Try.func16 (by kernel_rfl) rfl #[.int .i64 t306, .slice Ao63 t307.length co63] rfl (by (try simp only [List.map_toArray, List.map_cons, List.map_nil]); first | done | rfl | (simp only [List.length_drop, List.length_take]; rfl)) ?_; (with_reducible refine (impl_DecodePage.calls kj12 t306 _ _ t307 t315 t316 t317 _ ?side1 ?side2 A40.out).mono ?_); (case side1 => repeat (first | exact (Kd.R_reads' HO309.out).2.2 | (with_reducible refine Kd.C_alloc ?_ _) | (with_reducible refine Kd.C_drewN ?_ _) | (with_reducible refine Kd.C_drew ?_))); (case side2 => exact (Kd.R_reads' HO309.out).2.1); rintro e w65 ⟨v318, rfl, ho0, hb⟩; refine ⟨_, rfl, ?_⟩; have n0_ := Aside0.mk (Kd.R_elder' (by (with_reducible repeat (first | apply Kd.R_alloc | apply Kd.R_drewN | apply Kd.R_drew)); exact HO_8.out) (Kd.R_base ho0) hb); have n1_ := Aside0.mk (Kd.R_elder' (by (with_reducible repeat (first | apply Kd.R_alloc | apply Kd.R_drewN | apply Kd.R_drew)); exact HO305.out) (Kd.R_base ho0) hb); have n2_ := Aside0.mk (Kd.R_elder' (by (with_reducible repeat (first | apply Kd.R_alloc | apply Kd.R_drewN | apply Kd.R_drew)); exact HO309.out) (Kd.R_base ho0) hb); have n3_ := Aside0.mk (Kd.R_elder' (by (with_reducible repeat (first | apply Kd.R_alloc | apply Kd.R_drewN | apply Kd.R_drew)); exact HO314.out) (Kd.R_base ho0) hb); have n4_ := Aside0.mk (Kd.R_lower (Kd.R_new' (Kd.R_new' (Kd.R_new' (Kd.R_new' ho0 (Kd.R_lt (by (with_reducible repeat (first | apply Kd.R_alloc | apply Kd.R_drewN | apply Kd.R_drew)); exact HO_8.out))) (Kd.R_lt (by (with_reducible repeat (first | apply Kd.R_alloc | apply Kd.R_drewN | apply Kd.R_drew)); exact HO305.out))) (Kd.R_lt (by (with_reducible repeat (first | apply Kd.R_alloc | apply Kd.R_drewN | apply Kd.R_drew)); exact HO309.out))) (Kd.R_lt (by (with_reducible repeat (first | apply Kd.R_alloc | apply Kd.R_drewN | apply Kd.R_drew)); exact HO314.out))) (below_size (by repeat (first | (with_reducible first | exact HB.out | apply below_alloc | apply pw_below_drewN | apply below_drew1) | exact HB.out)))); have n5_ := Aside0.mk (below_step (by repeat (first | (with_reducible first | exact HB.out | apply below_alloc | apply pw_below_drewN | apply below_drew1) | exact HB.out)) hb); clear HO_8; clear HO305; clear HO309; clear HO314; clear HB; have HO_8 := n0_; have HO305 := n1_; have HO309 := n2_; have HO314 := n3_; have HO319 := n4_; have HB := n5_; clear n0_ n1_ n2_ n3_ n4_ n5_; (try clear hb); (try clear hb2); (try clear hk); (try clear hi); (try clear ho0)))
                          go_ret
                          exact ⟨by first | rfl | (simp [errW_none, errW_some] <;> rfl) | (simp only [← hji26, ← hji29, ← hji31]; first | rfl | (simp [errW_none, errW_some] <;> rfl)) | (simp [*, errW_none, errW_some] <;> rfl), by repeat (first | (with_reducible first | exact HB.out | apply below_alloc | apply pw_below_drewN | apply below_drew1) | exact HB.out)⟩
                    · rw [if_neg c30] at H
                      exact absurd H (by simp)
                  · rw [if_neg c28] at H
                    exact absurd H (by simp)
                · rw [if_neg c27] at H
                  exact absurd H (by simp)
      · replace c11 := Bool.eq_false_iff.mpr c11
        subst c11
        have H1 : ((spec_DrawDecodePage.f k l0).bind fun bt320 => ((spec_DecodePage.f k bt320.1 bt320.2).bind fun bt324 => ((impl_DecodePage.f k bt320.1 bt320.2).bind fun bt329 => (if (bt329.2.2 == bt324.2.2) = true then (if bt329.1 = bt324.1 then (some ((strOfNums bt329.2.1).toList == (strOfNums bt324.2.1).toList)) else (some false)) else (some false))))) = some r := by rw [if_neg (show ¬ (false = true) by decide)] at H; exact H
        clear H
        have H := H1
        clear H1
        replace H := Option.bind_eq_some_iff.mp H
        obtain ⟨⟨t320, t321⟩, A660, H⟩ := H
        replace H : ((spec_DecodePage.f k t320 t321).bind fun bt324 => ((impl_DecodePage.f k t320 t321).bind fun bt329 => (if (bt329.2.2 == bt324.2.2) = true then (if bt329.1 = bt324.1 then (some ((strOfNums bt329.2.1).toList == (strOfNums bt324.2.1).toList)) else (some false)) else (some false)))) = some r := H
        have A66 := Aside0.mk A660
        clear A660
        replace H := Option.bind_eq_some_iff.mp H
        obtain ⟨⟨t324, t325, t326⟩, A670, H⟩ := H
        replace H : ((impl_DecodePage.f k t320 t321).bind fun bt329 => (if (bt329.2.2 == t326) = true then (if bt329.1 = t324 then (some ((strOfNums bt329.2.1).toList == (strOfNums t325).toList)) else (some false)) else (some false))) = some r := H
        have A67 := Aside0.mk A670
        clear A670
        replace H := Option.bind_eq_some_iff.mp H
        obtain ⟨⟨t329, t330, t331⟩, A680, H⟩ := H
        replace H : (if (t331 == t326) = true then (if t329 = t324 then (some ((strOfNums t330).toList == (strOfNums t325).toList)) else (some false)) else (some false)) = some r := H
        have A68 := Aside0.mk A680
        clear A680
        by_cases c69 : (t331 == t326) = true
        · rw [if_pos c69] at H
          have c69b0 : (t331 == t326) = true := c69
          (try (have c69b1 : decide (t331 = t326) = true := by simpa using c69))
          (try (have c69b2 : (t331 == t326) = true := by simpa using c69))
          clear c69
          by_cases c70 : t329 = t324
          · rw [if_pos c70] at H
            have c70b0 : (t329 == t324) = true := beq_iff_eq.mpr c70
            have c70b1 : (t329 != t324) = false := bne_eq_false_iff_eq.mpr c70
            clear c70
            obtain rfl := Option.some.inj H
            go_enter Try.func4, Try.ntmps4
            go_wp2_with (first | ((with_reducible refine gate_callee (f := 20) rfl ?_); refine goesL_ (some 30) rfl rfl Try.func20 (by kernel_rfl) rfl #[.slice A0 l0.length c0] rfl (by (try simp only [List.map_toArray, List.map_cons, List.map_nil]); first | done | rfl | (simp only [List.length_drop, List.length_take]; rfl)) ?_; (with_reducible refine (spec_DrawEncodePage.calls k _ _ l0 t281 t282 t283 _ ?side1 ?side2 A3.out).mono ?_); (case side1 => repeat (first | exact HR0.out | (with_reducible refine Kd.C_alloc ?_ _) | (with_reducible refine Kd.C_drewN ?_ _) | (with_reducible refine Kd.C_drew ?_))); (case side2 => exact HC0.out); rintro e w71 ⟨v284, rfl, ho0, hb⟩; refine ⟨_, rfl, ?_⟩; have n0_ := Aside0.mk (Kd.R_lower ho0 (below_size (by repeat (first | (with_reducible first | exact HB.out | apply below_alloc | apply pw_below_drewN | apply below_drew1) | exact HB.out)))); have n1_ := Aside0.mk (below_step (by repeat (first | (with_reducible first | exact HB.out | apply below_alloc | apply pw_below_drewN | apply below_drew1) | exact HB.out)) hb); clear HB; have HO285 := n0_; have HB := n1_; clear n0_ n1_; (try clear hb); (try clear hb2); (try clear hk); (try clear hi); (try clear ho0); obtain ⟨Ao72, co72, eo72⟩ := Kd.R_slice HO285.out; subst eo72) | ((with_reducible refine gate_callee (f := 21) rfl ?_); refine goesL_ (some 38) rfl rfl Try.func21 (by kernel_rfl) rfl #[.int .i64 t281, .int .i64 t282, .slice Ao72 t283.length co72] rfl (by (try simp only [List.map_toArray, List.map_cons, List.map_nil]); first | done | rfl | (simp only [List.length_drop, List.length_take]; rfl)) ?_; (with_reducible refine (spec_EncodePage.calls k t281 t282 _ _ t283 t286 false _ ?side1 ?side2 A4.out).mono ?_); (case side1 => repeat (first | exact (Kd.R_reads' HO285.out).2.2 | (with_reducible refine Kd.C_alloc ?_ _) | (with_reducible refine Kd.C_drewN ?_ _) | (with_reducible refine Kd.C_drew ?_))); (case side2 => exact (Kd.R_reads' HO285.out).2.1); rintro e w73 ⟨v288, rfl, ho0, hb⟩; refine ⟨_, rfl, ?_⟩; have n0_ := Aside0.mk (Kd.R_elder' (by (with_reducible repeat (first | apply Kd.R_alloc | apply Kd.R_drewN | apply Kd.R_drew)); exact HO285.out) (Kd.R_base ho0) hb); have n1_ := Aside0.mk (Kd.R_lower (Kd.R_new' ho0 (Kd.R_lt (by (with_reducible repeat (first | apply Kd.R_alloc | apply Kd.R_drewN | apply Kd.R_drew)); exact HO285.out))) (below_size (by repeat (first | (with_reducible first | exact HB.out | apply below_alloc | apply pw_below_drewN | apply below_drew1) | exact HB.out)))); have n2_ := Aside0.mk (below_step (by repeat (first | (with_reducible first | exact HB.out | apply below_alloc | apply pw_below_drewN | apply below_drew1) | exact HB.out)) hb); clear HO285; clear HB; have HO285 := n0_; have HO289 := n1_; have HB := n2_; clear n0_ n1_ n2_; (try clear hb); (try clear hb2); (try clear hk); (try clear hi); (try clear ho0)) | ((with_reducible refine gate_callee (f := 22) rfl ?_); refine goesL_ (some 45) rfl rfl Try.func22 (by kernel_rfl) rfl #[.int .i64 t281, .int .i64 t282, .slice Ao72 t283.length co72] rfl (by (try simp only [List.map_toArray, List.map_cons, List.map_nil]); first | done | rfl | (simp only [List.length_drop, List.length_take]; rfl)) ?_; (with_reducible refine (impl_EncodePage.calls k t281 t282 _ _ t283 t290 t291 _ ?side1 ?side2 A5.out).mono ?_); (case side1 => repeat (first | exact (Kd.R_reads' HO285.out).2.2 | (with_reducible refine Kd.C_alloc ?_ _) | (with_reducible refine Kd.C_drewN ?_ _) | (with_reducible refine Kd.C_drew ?_))); (case side2 => exact (Kd.R_reads' HO285.out).2.1); rintro e w74 ⟨v292, rfl, ho0, hb⟩; refine ⟨_, rfl, ?_⟩; have n0_ := Aside0.mk (Kd.R_elder' (by (with_reducible repeat (first | apply Kd.R_alloc | apply Kd.R_drewN | apply Kd.R_drew)); exact HO285.out) (Kd.R_base ho0) hb); have n1_ := Aside0.mk (Kd.R_elder' (by (with_reducible repeat (first | apply Kd.R_alloc | apply Kd.R_drewN | apply Kd.R_drew)); exact HO289.out) (Kd.R_base ho0) hb); have n2_ := Aside0.mk (Kd.R_lower (Kd.R_new' (Kd.R_new' ho0 (Kd.R_lt (by (with_reducible repeat (first | apply Kd.R_alloc | apply Kd.R_drewN | apply Kd.R_drew)); exact HO285.out))) (Kd.R_lt (by (with_reducible repeat (first | apply Kd.R_alloc | apply Kd.R_drewN | apply Kd.R_drew)); exact HO289.out))) (below_size (by repeat (first | (with_reducible first | exact HB.out | apply below_alloc | apply pw_below_drewN | apply below_drew1) | exact HB.out)))); have n3_ := Aside0.mk (below_step (by repeat (first | (with_reducible first | exact HB.out | apply below_alloc | apply pw_below_drewN | apply below_drew1) | exact HB.out)) hb); clear HO285; clear HO289; clear HB; have HO285 := n0_; have HO289 := n1_; have HO293 := n2_; have HB := n3_; clear n0_ n1_ n2_ n3_; (try clear hb); (try clear hb2); (try clear hk); (try clear hi); (try clear ho0)) | ((with_reducible refine gate_callee (f := 23) rfl ?_); refine goesL_ (some 100) rfl rfl Try.func23 (by kernel_rfl) rfl #[.slice A0 l0.length c0] rfl (by (try simp only [List.map_toArray, List.map_cons, List.map_nil]); first | done | rfl | (simp only [List.length_drop, List.length_take]; rfl)) ?_; (with_reducible refine (spec_DrawDecodePage.calls k _ _ l0 t320 t321 _ ?side1 ?side2 A66.out).mono ?_); (case side1 => repeat (first | exact (Kd.C_below HR0.out HB.out) | (with_reducible refine Kd.C_alloc ?_ _) | (with_reducible refine Kd.C_drewN ?_ _) | (with_reducible refine Kd.C_drew ?_))); (case side2 => exact HC0.out); rintro e w75 ⟨v322, rfl, ho0, hb⟩; refine ⟨_, rfl, ?_⟩; have n0_ := Aside0.mk (Kd.R_elder' (by (with_reducible repeat (first | apply Kd.R_alloc | apply Kd.R_drewN | apply Kd.R_drew)); exact HO285.out) (Kd.R_base ho0) hb); have n1_ := Aside0.mk (Kd.R_elder' (by (with_reducible repeat (first | apply Kd.R_alloc | apply Kd.R_drewN | apply Kd.R_drew)); exact HO289.out) (Kd.R_base ho0) hb); have n2_ := Aside0.mk (Kd.R_elder' (by (with_reducible repeat (first | apply Kd.R_alloc | apply Kd.R_drewN | apply Kd.R_drew)); exact HO293.out) (Kd.R_base ho0) hb); have n3_ := Aside0.mk (Kd.R_lower (Kd.R_new' (Kd.R_new' (Kd.R_new' ho0 (Kd.R_lt (by (with_reducible repeat (first | apply Kd.R_alloc | apply Kd.R_drewN | apply Kd.R_drew)); exact HO285.out))) (Kd.R_lt (by (with_reducible repeat (first | apply Kd.R_alloc | apply Kd.R_drewN | apply Kd.R_drew)); exact HO289.out))) (Kd.R_lt (by (with_reducible repeat (first | apply Kd.R_alloc | apply Kd.R_drewN | apply Kd.R_drew)); exact HO293.out))) (below_size (by repeat (first | (with_reducible first | exact HB.out | apply below_alloc | apply pw_below_drewN | apply below_drew1) | exact HB.out)))); have n4_ := Aside0.mk (below_step (by repeat (first | (with_reducible first | exact HB.out | apply below_alloc | apply pw_below_drewN | apply below_drew1) | exact HB.out)) hb); clear HO285; clear HO289; clear HO293; clear HB; have HO285 := n0_; have HO289 := n1_; have HO293 := n2_; have HO323 := n3_; have HB := n4_; clear n0_ n1_ n2_ n3_ n4_; (try clear hb); (try clear hb2); (try clear hk); (try clear hi); (try clear ho0); obtain ⟨Ao76, co76, eo76⟩ := Kd.R_slice HO323.out; subst eo76) | ((with_reducible refine gate_callee (f := 14) rfl ?_); refine goesL_ (some 106) rfl rfl Try.func14 (by kernel_rfl) rfl #[.int .i64 t320, .slice Ao76 t321.length co76] rfl (by (try simp only [List.map_toArray, List.map_cons, List.map_nil]); first | done | rfl | (simp only [List.length_drop, List.length_take]; rfl)) ?_; (with_reducible refine (spec_DecodePage.calls k t320 _ _ t321 t324 t325 t326 _ ?side1 ?side2 A67.out).mono ?_); (case side1 => repeat (first | exact (Kd.R_reads' HO323.out).2.2 | (with_reducible refine Kd.C_alloc ?_ _) | (with_reducible refine Kd.C_drewN ?_ _) | (with_reducible refine Kd.C_drew ?_))); (case side2 => exact (Kd.R_reads' HO323.out).2.1); rintro e w77 ⟨v327, rfl, ho0, hb⟩; refine ⟨_, rfl, ?_⟩; have n0_ := Aside0.mk (Kd.R_elder' (by (with_reducible repeat (first | apply Kd.R_alloc | apply Kd.R_drewN | apply Kd.R_drew)); exact HO285.out) (Kd.R_base ho0) hb); have n1_ := Aside0.mk (Kd.R_elder' (by (with_reducible repeat (first | apply Kd.R_alloc | apply Kd.R_drewN | apply Kd.R_drew)); exact HO289.out) (Kd.R_base ho0) hb); have n2_ := Aside0.mk (Kd.R_elder' (by (with_reducible repeat (first | apply Kd.R_alloc | apply Kd.R_drewN | apply Kd.R_drew)); exact HO293.out) (Kd.R_base ho0) hb); have n3_ := Aside0.mk (Kd.R_elder' (by (with_reducible repeat (first | apply Kd.R_alloc | apply Kd.R_drewN | apply Kd.R_drew)); exact HO323.out) (Kd.R_base ho0) hb); have n4_ := Aside0.mk (Kd.R_lower (Kd.R_new' (Kd.R_new' (Kd.R_new' (Kd.R_new' ho0 (Kd.R_lt (by (with_reducible repeat (first | apply Kd.R_alloc | apply Kd.R_drewN | apply Kd.R_drew)); exact HO285.out))) (Kd.R_lt (by (with_reducible repeat (first | apply Kd.R_alloc | apply Kd.R_drewN | apply Kd.R_drew)); exact HO289.out))) (Kd.R_lt (by (with_reducible repeat (first | apply Kd.R_alloc | apply Kd.R_drewN | apply Kd.R_drew)); exact HO293.out))) (Kd.R_lt (by (with_reducible repeat (first | apply Kd.R_alloc | apply Kd.R_drewN | apply Kd.R_drew)); exact HO323.out))) (below_size (by repeat (first | (with_reducible first | exact HB.out | apply below_alloc | apply pw_below_drewN | apply below_drew1) | exact HB.out)))); have n5_ := Aside0.mk (below_step (by repeat (first | (with_reducible first | exact HB.out | apply below_alloc | apply pw_below_drewN | apply below_drew1) | exact HB.out)) hb); clear HO285; clear HO289; clear HO293; clear HO323; clear HB; have HO285 := n0_; have HO289 := n1_; have HO293 := n2_; have HO323 := n3_; have HO328 := n4_; have HB := n5_; clear n0_ n1_ n2_ n3_ n4_ n5_; (try clear hb); (try clear hb2); (try clear hk); (try clear hi); (try clear ho0)) | ((with_reducible refine gate_callee (f := 16) rfl ?_); refine goesL_ (some 113) rfl rfl Try.func16 (by kernel_rfl) rfl #[.int .i64 t320, .slice Ao76 t321.length co76] rfl (by (try simp only [List.map_toArray, List.map_cons, List.map_nil]); first | done | rfl | (simp only [List.length_drop, List.length_take]; rfl)) ?_; (with_reducible refine (impl_DecodePage.calls k t320 _ _ t321 t329 t330 t331 _ ?side1 ?side2 A68.out).mono ?_); (case side1 => repeat (first | exact (Kd.R_reads' HO323.out).2.2 | (with_reducible refine Kd.C_alloc ?_ _) | (with_reducible refine Kd.C_drewN ?_ _) | (with_reducible refine Kd.C_drew ?_))); (case side2 => exact (Kd.R_reads' HO323.out).2.1); rintro e w78 ⟨v332, rfl, ho0, hb⟩; refine ⟨_, rfl, ?_⟩; have n0_ := Aside0.mk (Kd.R_elder' (by (with_reducible repeat (first | apply Kd.R_alloc | apply Kd.R_drewN | apply Kd.R_drew)); exact HO285.out) (Kd.R_base ho0) hb); have n1_ := Aside0.mk (Kd.R_elder' (by (with_reducible repeat (first | apply Kd.R_alloc | apply Kd.R_drewN | apply Kd.R_drew)); exact HO289.out) (Kd.R_base ho0) hb); have n2_ := Aside0.mk (Kd.R_elder' (by (with_reducible repeat (first | apply Kd.R_alloc | apply Kd.R_drewN | apply Kd.R_drew)); exact HO293.out) (Kd.R_base ho0) hb); have n3_ := Aside0.mk (Kd.R_elder' (by (with_reducible repeat (first | apply Kd.R_alloc | apply Kd.R_drewN | apply Kd.R_drew)); exact HO323.out) (Kd.R_base ho0) hb); have n4_ := Aside0.mk (Kd.R_elder' (by (with_reducible repeat (first | apply Kd.R_alloc | apply Kd.R_drewN | apply Kd.R_drew)); exact HO328.out) (Kd.R_base ho0) hb); have n5_ := Aside0.mk (Kd.R_lower (Kd.R_new' (Kd.R_new' (Kd.R_new' (Kd.R_new' (Kd.R_new' ho0 (Kd.R_lt (by (with_reducible repeat (first | apply Kd.R_alloc | apply Kd.R_drewN | apply Kd.R_drew)); exact HO285.out))) (Kd.R_lt (by (with_reducible repeat (first | apply Kd.R_alloc | apply Kd.R_drewN | apply Kd.R_drew)); exact HO289.out))) (Kd.R_lt (by (with_reducible repeat (first | apply Kd.R_alloc | apply Kd.R_drewN | apply Kd.R_drew)); exact HO293.out))) (Kd.R_lt (by (with_reducible repeat (first | apply Kd.R_alloc | apply Kd.R_drewN | apply Kd.R_drew)); exact HO323.out))) (Kd.R_lt (by (with_reducible repeat (first | apply Kd.R_alloc | apply Kd.R_drewN | apply Kd.R_drew)); exact HO328.out))) (below_size (by repeat (first | (with_reducible first | exact HB.out | apply below_alloc | apply pw_below_drewN | apply below_drew1) | exact HB.out)))); have n6_ := Aside0.mk (below_step (by repeat (first | (with_reducible first | exact HB.out | apply below_alloc | apply pw_below_drewN | apply below_drew1) | exact HB.out)) hb); clear HO285; clear HO289; clear HO293; clear HO323; clear HO328; clear HB; have HO285 := n0_; have HO289 := n1_; have HO293 := n2_; have HO323 := n3_; have HO328 := n4_; have HO333 := n5_; have HB := n6_; clear n0_ n1_ n2_ n3_ n4_ n5_ n6_; (try clear hb); (try clear hb2); (try clear hk); (try clear hi); (try clear ho0); have hcv79 := own_string (P := Try.prog) Try.underlying22 Try.underlying5 Try.underlying9 (Kd.own_of_R HO333.out); have hcv80 := own_string (P := Try.prog) Try.underlying22 Try.underlying5 Try.underlying9 (Kd.own_of_R HO328.out)))
            go_ret
            exact ⟨by first | rfl | (simp [errW_none, errW_some] <;> rfl) | (simp [*, errW_none, errW_some] <;> rfl), by repeat (first | (with_reducible first | exact HB.out | apply below_alloc | apply pw_below_drewN | apply below_drew1) | exact HB.out)⟩
          · rw [if_neg c70] at H
            have c70b0 : (t329 == t324) = false := beq_eq_false_iff_ne.mpr c70
            have c70b1 : (t329 != t324) = true := bne_iff_ne.mpr c70
            obtain rfl := Option.some.inj H
            go_enter Try.func4, Try.ntmps4
            go_wp2_with (first | ((with_reducible refine gate_callee (f := 20) rfl ?_); refine goesL_ (some 30) rfl rfl Try.func20 (by kernel_rfl) rfl #[.slice A0 l0.length c0] rfl (by (try simp only [List.map_toArray, List.map_cons, List.map_nil]); first | done | rfl | (simp only [List.length_drop, List.length_take]; rfl)) ?_; (with_reducible refine (spec_DrawEncodePage.calls k _ _ l0 t281 t282 t283 _ ?side1 ?side2 A3.out).mono ?_); (case side1 => repeat (first | exact HR0.out | (with_reducible refine Kd.C_alloc ?_ _) | (with_reducible refine Kd.C_drewN ?_ _) | (with_reducible refine Kd.C_drew ?_))); (case side2 => exact HC0.out); rintro e w81 ⟨v284, rfl, ho0, hb⟩; refine ⟨_, rfl, ?_⟩; have n0_ := Aside0.mk (Kd.R_lower ho0 (below_size (by repeat (first | (with_reducible first | exact HB.out | apply below_alloc | apply pw_below_drewN | apply below_drew1) | exact HB.out)))); have n1_ := Aside0.mk (below_step (by repeat (first | (with_reducible first | exact HB.out | apply below_alloc | apply pw_below_drewN | apply below_drew1) | exact HB.out)) hb); clear HB; have HO285 := n0_; have HB := n1_; clear n0_ n1_; (try clear hb); (try clear hb2); (try clear hk); (try clear hi); (try clear ho0); obtain ⟨Ao82, co82, eo82⟩ := Kd.R_slice HO285.out; subst eo82) | ((with_reducible refine gate_callee (f := 21) rfl ?_); refine goesL_ (some 38) rfl rfl Try.func21 (by kernel_rfl) rfl #[.int .i64 t281, .int .i64 t282, .slice Ao82 t283.length co82] rfl (by (try simp only [List.map_toArray, List.map_cons, List.map_nil]); first | done | rfl | (simp only [List.length_drop, List.length_take]; rfl)) ?_; (with_reducible refine (spec_EncodePage.calls k t281 t282 _ _ t283 t286 false _ ?side1 ?side2 A4.out).mono ?_); (case side1 => repeat (first | exact (Kd.R_reads' HO285.out).2.2 | (with_reducible refine Kd.C_alloc ?_ _) | (with_reducible refine Kd.C_drewN ?_ _) | (with_reducible refine Kd.C_drew ?_))); (case side2 => exact (Kd.R_reads' HO285.out).2.1); rintro e w83 ⟨v288, rfl, ho0, hb⟩; refine ⟨_, rfl, ?_⟩; have n0_ := Aside0.mk (Kd.R_elder' (by (with_reducible repeat (first | apply Kd.R_alloc | apply Kd.R_drewN | apply Kd.R_drew)); exact HO285.out) (Kd.R_base ho0) hb); have n1_ := Aside0.mk (Kd.R_lower (Kd.R_new' ho0 (Kd.R_lt (by (with_reducible repeat (first | apply Kd.R_alloc | apply Kd.R_drewN | apply Kd.R_drew)); exact HO285.out))) (below_size (by repeat (first | (with_reducible first | exact HB.out | apply below_alloc | apply pw_below_drewN | apply below_drew1) | exact HB.out)))); have n2_ := Aside0.mk (below_step (by repeat (first | (with_reducible first | exact HB.out | apply below_alloc | apply pw_below_drewN | apply below_drew1) | exact HB.out)) hb); clear HO285; clear HB; have HO285 := n0_; have HO289 := n1_; have HB := n2_; clear n0_ n1_ n2_; (try clear hb); (try clear hb2); (try clear hk); (try clear hi); (try clear ho0)) | ((with_reducible refine gate_callee (f := 22) rfl ?_); refine goesL_ (some 45) rfl rfl Try.func22 (by kernel_rfl) rfl #[.int .i64 t281, .int .i64 t282, .slice Ao82 t283.length co82] rfl (by (try simp only [List.map_toArray, List.map_cons, List.map_nil]); first | done | rfl | (simp only [List.length_drop, List.length_take]; rfl)) ?_; (with_reducible refine (impl_EncodePage.calls k t281 t282 _ _ t283 t290 t291 _ ?side1 ?side2 A5.out).mono ?_); (case side1 => repeat (first | exact (Kd.R_reads' HO285.out).2.2 | (with_reducible refine Kd.C_alloc ?_ _) | (with_reducible refine Kd.C_drewN ?_ _) | (with_reducible refine Kd.C_drew ?_))); (case side2 => exact (Kd.R_reads' HO285.out).2.1); rintro e w84 ⟨v292, rfl, ho0, hb⟩; refine ⟨_, rfl, ?_⟩; have n0_ := Aside0.mk (Kd.R_elder' (by (with_reducible repeat (first | apply Kd.R_alloc | apply Kd.R_drewN | apply Kd.R_drew)); exact HO285.out) (Kd.R_base ho0) hb); have n1_ := Aside0.mk (Kd.R_elder' (by (with_reducible repeat (first | apply Kd.R_alloc | apply Kd.R_drewN | apply Kd.R_drew)); exact HO289.out) (Kd.R_base ho0) hb); have n2_ := Aside0.mk (Kd.R_lower (Kd.R_new' (Kd.R_new' ho0 (Kd.R_lt (by (with_reducible repeat (first | apply Kd.R_alloc | apply Kd.R_drewN | apply Kd.R_drew)); exact HO285.out))) (Kd.R_lt (by (with_reducible repeat (first | apply Kd.R_alloc | apply Kd.R_drewN | apply Kd.R_drew)); exact HO289.out))) (below_size (by repeat (first | (with_reducible first | exact HB.out | apply below_alloc | apply pw_below_drewN | apply below_drew1) | exact HB.out)))); have n3_ := Aside0.mk (below_step (by repeat (first | (with_reducible first | exact HB.out | apply below_alloc | apply pw_below_drewN | apply below_drew1) | exact HB.out)) hb); clear HO285; clear HO289; clear HB; have HO285 := n0_; have HO289 := n1_; have HO293 := n2_; have HB := n3_; clear n0_ n1_ n2_ n3_; (try clear hb); (try clear hb2); (try clear hk); (try clear hi); (try clear ho0)) | ((with_reducible refine gate_callee (f := 23) rfl ?_); refine goesL_ (some 100) rfl rfl Try.func23 (by kernel_rfl) rfl #[.slice A0 l0.length c0] rfl (by (try simp only [List.map_toArray, List.map_cons, List.map_nil]); first | done | rfl | (simp only [List.length_drop, List.length_take]; rfl)) ?_; (with_reducible refine (spec_DrawDecodePage.calls k _ _ l0 t320 t321 _ ?side1 ?side2 A66.out).mono ?_); (case side1 => repeat (first | exact (Kd.C_below HR0.out HB.out) | (with_reducible refine Kd.C_alloc ?_ _) | (with_reducible refine Kd.C_drewN ?_ _) | (with_reducible refine Kd.C_drew ?_))); (case side2 => exact HC0.out); rintro e w85 ⟨v322, rfl, ho0, hb⟩; refine ⟨_, rfl, ?_⟩; have n0_ := Aside0.mk (Kd.R_elder' (by (with_reducible repeat (first | apply Kd.R_alloc | apply Kd.R_drewN | apply Kd.R_drew)); exact HO285.out) (Kd.R_base ho0) hb); have n1_ := Aside0.mk (Kd.R_elder' (by (with_reducible repeat (first | apply Kd.R_alloc | apply Kd.R_drewN | apply Kd.R_drew)); exact HO289.out) (Kd.R_base ho0) hb); have n2_ := Aside0.mk (Kd.R_elder' (by (with_reducible repeat (first | apply Kd.R_alloc | apply Kd.R_drewN | apply Kd.R_drew)); exact HO293.out) (Kd.R_base ho0) hb); have n3_ := Aside0.mk (Kd.R_lower (Kd.R_new' (Kd.R_new' (Kd.R_new' ho0 (Kd.R_lt (by (with_reducible repeat (first | apply Kd.R_alloc | apply Kd.R_drewN | apply Kd.R_drew)); exact HO285.out))) (Kd.R_lt (by (with_reducible repeat (first | apply Kd.R_alloc | apply Kd.R_drewN | apply Kd.R_drew)); exact HO289.out))) (Kd.R_lt (by (with_reducible repeat (first | apply Kd.R_alloc | apply Kd.R_drewN | apply Kd.R_drew)); exact HO293.out))) (below_size (by repeat (first | (with_reducible first | exact HB.out | apply below_alloc | apply pw_below_drewN | apply below_drew1) | exact HB.out)))); have n4_ := Aside0.mk (below_step (by repeat (first | (with_reducible first | exact HB.out | apply below_alloc | apply pw_below_drewN | apply below_drew1) | exact HB.out)) hb); clear HO285; clear HO289; clear HO293; clear HB; have HO285 := n0_; have HO289 := n1_; have HO293 := n2_; have HO323 := n3_; have HB := n4_; clear n0_ n1_ n2_ n3_ n4_; (try clear hb); (try clear hb2); (try clear hk); (try clear hi); (try clear ho0); obtain ⟨Ao86, co86, eo86⟩ := Kd.R_slice HO323.out; subst eo86) | ((with_reducible refine gate_callee (f := 14) rfl ?_); refine goesL_ (some 106) rfl rfl Try.func14 (by kernel_rfl) rfl #[.int .i64 t320, .slice Ao86 t321.length co86] rfl (by (try simp only [List.map_toArray, List.map_cons, List.map_nil]); first | done | rfl | (simp only [List.length_drop, List.length_take]; rfl)) ?_; (with_reducible refine (spec_DecodePage.calls k t320 _ _ t321 t324 t325 t326 _ ?side1 ?side2 A67.out).mono ?_); (case side1 => repeat (first | exact (Kd.R_reads' HO323.out).2.2 | (with_reducible refine Kd.C_alloc ?_ _) | (with_reducible refine Kd.C_drewN ?_ _) | (with_reducible refine Kd.C_drew ?_))); (case side2 => exact (Kd.R_reads' HO323.out).2.1); rintro e w87 ⟨v327, rfl, ho0, hb⟩; refine ⟨_, rfl, ?_⟩; have n0_ := Aside0.mk (Kd.R_elder' (by (with_reducible repeat (first | apply Kd.R_alloc | apply Kd.R_drewN | apply Kd.R_drew)); exact HO285.out) (Kd.R_base ho0) hb); have n1_ := Aside0.mk (Kd.R_elder' (by (with_reducible repeat (first | apply Kd.R_alloc | apply Kd.R_drewN | apply Kd.R_drew)); exact HO289.out) (Kd.R_base ho0) hb); have n2_ := Aside0.mk (Kd.R_elder' (by (with_reducible repeat (first | apply Kd.R_alloc | apply Kd.R_drewN | apply Kd.R_drew)); exact HO293.out) (Kd.R_base ho0) hb); have n3_ := Aside0.mk (Kd.R_elder' (by (with_reducible repeat (first | apply Kd.R_alloc | apply Kd.R_drewN | apply Kd.R_drew)); exact HO323.out) (Kd.R_base ho0) hb); have n4_ := Aside0.mk (Kd.R_lower (Kd.R_new' (Kd.R_new' (Kd.R_new' (Kd.R_new' ho0 (Kd.R_lt (by (with_reducible repeat (first | apply Kd.R_alloc | apply Kd.R_drewN | apply Kd.R_drew)); exact HO285.out))) (Kd.R_lt (by (with_reducible repeat (first | apply Kd.R_alloc | apply Kd.R_drewN | apply Kd.R_drew)); exact HO289.out))) (Kd.R_lt (by (with_reducible repeat (first | apply Kd.R_alloc | apply Kd.R_drewN | apply Kd.R_drew)); exact HO293.out))) (Kd.R_lt (by (with_reducible repeat (first | apply Kd.R_alloc | apply Kd.R_drewN | apply Kd.R_drew)); exact HO323.out))) (below_size (by repeat (first | (with_reducible first | exact HB.out | apply below_alloc | apply pw_below_drewN | apply below_drew1) | exact HB.out)))); have n5_ := Aside0.mk (below_step (by repeat (first | (with_reducible first | exact HB.out | apply below_alloc | apply pw_below_drewN | apply below_drew1) | exact HB.out)) hb); clear HO285; clear HO289; clear HO293; clear HO323; clear HB; have HO285 := n0_; have HO289 := n1_; have HO293 := n2_; have HO323 := n3_; have HO328 := n4_; have HB := n5_; clear n0_ n1_ n2_ n3_ n4_ n5_; (try clear hb); (try clear hb2); (try clear hk); (try clear hi); (try clear ho0)) | ((with_reducible refine gate_callee (f := 16) rfl ?_); refine goesL_ (some 113) rfl rfl Try.func16 (by kernel_rfl) rfl #[.int .i64 t320, .slice Ao86 t321.length co86] rfl (by (try simp only [List.map_toArray, List.map_cons, List.map_nil]); first | done | rfl | (simp only [List.length_drop, List.length_take]; rfl)) ?_; (with_reducible refine (impl_DecodePage.calls k t320 _ _ t321 t329 t330 t331 _ ?side1 ?side2 A68.out).mono ?_); (case side1 => repeat (first | exact (Kd.R_reads' HO323.out).2.2 | (with_reducible refine Kd.C_alloc ?_ _) | (with_reducible refine Kd.C_drewN ?_ _) | (with_reducible refine Kd.C_drew ?_))); (case side2 => exact (Kd.R_reads' HO323.out).2.1); rintro e w88 ⟨v332, rfl, ho0, hb⟩; refine ⟨_, rfl, ?_⟩; have n0_ := Aside0.mk (Kd.R_elder' (by (with_reducible repeat (first | apply Kd.R_alloc | apply Kd.R_drewN | apply Kd.R_drew)); exact HO285.out) (Kd.R_base ho0) hb); have n1_ := Aside0.mk (Kd.R_elder' (by (with_reducible repeat (first | apply Kd.R_alloc | apply Kd.R_drewN | apply Kd.R_drew)); exact HO289.out) (Kd.R_base ho0) hb); have n2_ := Aside0.mk (Kd.R_elder' (by (with_reducible repeat (first | apply Kd.R_alloc | apply Kd.R_drewN | apply Kd.R_drew)); exact HO293.out) (Kd.R_base ho0) hb); have n3_ := Aside0.mk (Kd.R_elder' (by (with_reducible repeat (first | apply Kd.R_alloc | apply Kd.R_drewN | apply Kd.R_drew)); exact HO323.out) (Kd.R_base ho0) hb); have n4_ := Aside0.mk (Kd.R_elder' (by (with_reducible repeat (first | apply Kd.R_alloc | apply Kd.R_drewN | apply Kd.R_drew)); exact HO328.out) (Kd.R_base ho0) hb); have n5_ := Aside0.mk (Kd.R_lower (Kd.R_new' (Kd.R_new' (Kd.R_new' (Kd.R_new' (Kd.R_new' ho0 (Kd.R_lt (by (with_reducible repeat (first | apply Kd.R_alloc | apply Kd.R_drewN | apply Kd.R_drew)); exact HO285.out))) (Kd.R_lt (by (with_reducible repeat (first | apply Kd.R_alloc | apply Kd.R_drewN | apply Kd.R_drew)); exact HO289.out))) (Kd.R_lt (by (with_reducible repeat (first | apply Kd.R_alloc | apply Kd.R_drewN | apply Kd.R_drew)); exact HO293.out))) (Kd.R_lt (by (with_reducible repeat (first | apply Kd.R_alloc | apply Kd.R_drewN | apply Kd.R_drew)); exact HO323.out))) (Kd.R_lt (by (with_reducible repeat (first | apply Kd.R_alloc | apply Kd.R_drewN | apply Kd.R_drew)); exact HO328.out))) (below_size (by repeat (first | (with_reducible first | exact HB.out | apply below_alloc | apply pw_below_drewN | apply below_drew1) | exact HB.out)))); have n6_ := Aside0.mk (below_step (by repeat (first | (with_reducible first | exact HB.out | apply below_alloc | apply pw_below_drewN | apply below_drew1) | exact HB.out)) hb); clear HO285; clear HO289; clear HO293; clear HO323; clear HO328; clear HB; have HO285 := n0_; have HO289 := n1_; have HO293 := n2_; have HO323 := n3_; have HO328 := n4_; have HO333 := n5_; have HB := n6_; clear n0_ n1_ n2_ n3_ n4_ n5_ n6_; (try clear hb); (try clear hb2); (try clear hk); (try clear hi); (try clear ho0)))
            go_ret
            exact ⟨by first | rfl | (simp [errW_none, errW_some] <;> rfl) | (simp [*, errW_none, errW_some] <;> rfl), by repeat (first | (with_reducible first | exact HB.out | apply below_alloc | apply pw_below_drewN | apply below_drew1) | exact HB.out)⟩
        · rw [if_neg c69] at H
          have c69b0 : (t331 == t326) = false := by simpa using c69
          (try (have c69b1 : decide (t331 = t326) = false := by simpa using c69))
          (try (have c69b2 : (t331 == t326) = false := by simpa using c69))
          (try (have c69b3 : ¬ (t331 = t326) := by simpa using c69))
          clear c69
          obtain rfl := Option.some.inj H
          go_enter Try.func4, Try.ntmps4
          go_wp2_with (first | ((with_reducible refine gate_callee (f := 20) rfl ?_); refine goesL_ (some 30) rfl rfl Try.func20 (by kernel_rfl) rfl #[.slice A0 l0.length c0] rfl (by (try simp only [List.map_toArray, List.map_cons, List.map_nil]); first | done | rfl | (simp only [List.length_drop, List.length_take]; rfl)) ?_; (with_reducible refine (spec_DrawEncodePage.calls k _ _ l0 t281 t282 t283 _ ?side1 ?side2 A3.out).mono ?_); (case side1 => repeat (first | exact HR0.out | (with_reducible refine Kd.C_alloc ?_ _) | (with_reducible refine Kd.C_drewN ?_ _) | (with_reducible refine Kd.C_drew ?_))); (case side2 => exact HC0.out); rintro e w89 ⟨v284, rfl, ho0, hb⟩; refine ⟨_, rfl, ?_⟩; have n0_ := Aside0.mk (Kd.R_lower ho0 (below_size (by repeat (first | (with_reducible first | exact HB.out | apply below_alloc | apply pw_below_drewN | apply below_drew1) | exact HB.out)))); have n1_ := Aside0.mk (below_step (by repeat (first | (with_reducible first | exact HB.out | apply below_alloc | apply pw_below_drewN | apply below_drew1) | exact HB.out)) hb); clear HB; have HO285 := n0_; have HB := n1_; clear n0_ n1_; (try clear hb); (try clear hb2); (try clear hk); (try clear hi); (try clear ho0); obtain ⟨Ao90, co90, eo90⟩ := Kd.R_slice HO285.out; subst eo90) | ((with_reducible refine gate_callee (f := 21) rfl ?_); refine goesL_ (some 38) rfl rfl Try.func21 (by kernel_rfl) rfl #[.int .i64 t281, .int .i64 t282, .slice Ao90 t283.length co90] rfl (by (try simp only [List.map_toArray, List.map_cons, List.map_nil]); first | done | rfl | (simp only [List.length_drop, List.length_take]; rfl)) ?_; (with_reducible refine (spec_EncodePage.calls k t281 t282 _ _ t283 t286 false _ ?side1 ?side2 A4.out).mono ?_); (case side1 => repeat (first | exact (Kd.R_reads' HO285.out).2.2 | (with_reducible refine Kd.C_alloc ?_ _) | (with_reducible refine Kd.C_drewN ?_ _) | (with_reducible refine Kd.C_drew ?_))); (case side2 => exact (Kd.R_reads' HO285.out).2.1); rintro e w91 ⟨v288, rfl, ho0, hb⟩; refine ⟨_, rfl, ?_⟩; have n0_ := Aside0.mk (Kd.R_elder' (by (with_reducible repeat (first | apply Kd.R_alloc | apply Kd.R_drewN | apply Kd.R_drew)); exact HO285.out) (Kd.R_base ho0) hb); have n1_ := Aside0.mk (Kd.R_lower (Kd.R_new' ho0 (Kd.R_lt (by (with_reducible repeat (first | apply Kd.R_alloc | apply Kd.R_drewN | apply Kd.R_drew)); exact HO285.out))) (below_size (by repeat (first | (with_reducible first | exact HB.out | apply below_alloc | apply pw_below_drewN | apply below_drew1) | exact HB.out)))); have n2_ := Aside0.mk (below_step (by repeat (first | (with_reducible first | exact HB.out | apply below_alloc | apply pw_below_drewN | apply below_drew1) | exact HB.out)) hb); clear HO285; clear HB; have HO285 := n0_; have HO289 := n1_; have HB := n2_; clear n0_ n1_ n2_; (try clear hb); (try clear hb2); (try clear hk); (try clear hi); (try clear ho0)) | ((with_reducible refine gate_callee (f := 22) rfl ?_); refine goesL_ (some 45) rfl rfl Try.func22 (by kernel_rfl) rfl #[.int .i64 t281, .int .i64 t282, .slice Ao90 t283.length co90] rfl (by (try simp only [List.map_toArray, List.map_cons, List.map_nil]); first | done | rfl | (simp only [List.length_drop, List.length_take]; rfl)) ?_; (with_reducible refine (impl_EncodePage.calls k t281 t282 _ _ t283 t290 t291 _ ?side1 ?side2 A5.out).mono ?_); (case side1 => repeat (first | exact (Kd.R_reads' HO285.out).2.2 | (with_reducible refine Kd.C_alloc ?_ _) | (with_reducible refine Kd.C_drewN ?_ _) | (with_reducible refine Kd.C_drew ?_))); (case side2 => exact (Kd.R_reads' HO285.out).2.1); rintro e w92 ⟨v292, rfl, ho0, hb⟩; refine ⟨_, rfl, ?_⟩; have n0_ := Aside0.mk (Kd.R_elder' (by (with_reducible repeat (first | apply Kd.R_alloc | apply Kd.R_drewN | apply Kd.R_drew)); exact HO285.out) (Kd.R_base ho0) hb); have n1_ := Aside0.mk (Kd.R_elder' (by (with_reducible repeat (first | apply Kd.R_alloc | apply Kd.R_drewN | apply Kd.R_drew)); exact HO289.out) (Kd.R_base ho0) hb); have n2_ := Aside0.mk (Kd.R_lower (Kd.R_new' (Kd.R_new' ho0 (Kd.R_lt (by (with_reducible repeat (first | apply Kd.R_alloc | apply Kd.R_drewN | apply Kd.R_drew)); exact HO285.out))) (Kd.R_lt (by (with_reducible repeat (first | apply Kd.R_alloc | apply Kd.R_drewN | apply Kd.R_drew)); exact HO289.out))) (below_size (by repeat (first | (with_reducible first | exact HB.out | apply below_alloc | apply pw_below_drewN | apply below_drew1) | exact HB.out)))); have n3_ := Aside0.mk (below_step (by repeat (first | (with_reducible first | exact HB.out | apply below_alloc | apply pw_below_drewN | apply below_drew1) | exact HB.out)) hb); clear HO285; clear HO289; clear HB; have HO285 := n0_; have HO289 := n1_; have HO293 := n2_; have HB := n3_; clear n0_ n1_ n2_ n3_; (try clear hb); (try clear hb2); (try clear hk); (try clear hi); (try clear ho0)) | ((with_reducible refine gate_callee (f := 23) rfl ?_); refine goesL_ (some 100) rfl rfl Try.func23 (by kernel_rfl) rfl #[.slice A0 l0.length c0] rfl (by (try simp only [List.map_toArray, List.map_cons, List.map_nil]); first | done | rfl | (simp only [List.length_drop, List.length_take]; rfl)) ?_; (with_reducible refine (spec_DrawDecodePage.calls k _ _ l0 t320 t321 _ ?side1 ?side2 A66.out).mono ?_); (case side1 => repeat (first | exact (Kd.C_below HR0.out HB.out) | (with_reducible refine Kd.C_alloc ?_ _) | (with_reducible refine Kd.C_drewN ?_ _) | (with_reducible refine Kd.C_drew ?_))); (case side2 => exact HC0.out); rintro e w93 ⟨v322, rfl, ho0, hb⟩; refine ⟨_, rfl, ?_⟩; have n0_ := Aside0.mk (Kd.R_elder' (by (with_reducible repeat (first | apply Kd.R_alloc | apply Kd.R_drewN | apply Kd.R_drew)); exact HO285.out) (Kd.R_base ho0) hb); have n1_ := Aside0.mk (Kd.R_elder' (by (with_reducible repeat (first | apply Kd.R_alloc | apply Kd.R_drewN | apply Kd.R_drew)); exact HO289.out) (Kd.R_base ho0) hb); have n2_ := Aside0.mk (Kd.R_elder' (by (with_reducible repeat (first | apply Kd.R_alloc | apply Kd.R_drewN | apply Kd.R_drew)); exact HO293.out) (Kd.R_base ho0) hb); have n3_ := Aside0.mk (Kd.R_lower (Kd.R_new' (Kd.R_new' (Kd.R_new' ho0 (Kd.R_lt (by (with_reducible repeat (first | apply Kd.R_alloc | apply Kd.R_drewN | apply Kd.R_drew)); exact HO285.out))) (Kd.R_lt (by (with_reducible repeat (first | apply Kd.R_alloc | apply Kd.R_drewN | apply Kd.R_drew)); exact HO289.out))) (Kd.R_lt (by (with_reducible repeat (first | apply Kd.R_alloc | apply Kd.R_drewN | apply Kd.R_drew)); exact HO293.out))) (below_size (by repeat (first | (with_reducible first | exact HB.out | apply below_alloc | apply pw_below_drewN | apply below_drew1) | exact HB.out)))); have n4_ := Aside0.mk (below_step (by repeat (first | (with_reducible first | exact HB.out | apply below_alloc | apply pw_below_drewN | apply below_drew1) | exact HB.out)) hb); clear HO285; clear HO289; clear HO293; clear HB; have HO285 := n0_; have HO289 := n1_; have HO293 := n2_; have HO323 := n3_; have HB := n4_; clear n0_ n1_ n2_ n3_ n4_; (try clear hb); (try clear hb2); (try clear hk); (try clear hi); (try clear ho0); obtain ⟨Ao94, co94, eo94⟩ := Kd.R_slice HO323.out; subst eo94) | ((with_reducible refine gate_callee (f := 14) rfl ?_); refine goesL_ (some 106) rfl rfl Try.func14 (by kernel_rfl) rfl #[.int .i64 t320, .slice Ao94 t321.length co94] rfl (by (try simp only [List.map_toArray, List.map_cons, List.map_nil]); first | done | rfl | (simp only [List.length_drop, List.length_take]; rfl)) ?_; (with_reducible refine (spec_DecodePage.calls k t320 _ _ t321 t324 t325 t326 _ ?side1 ?side2 A67.out).mono ?_); (case side1 => repeat (first | exact (Kd.R_reads' HO323.out).2.2 | (with_reducible refine Kd.C_alloc ?_ _) | (with_reducible refine Kd.C_drewN ?_ _) | (with_reducible refine Kd.C_drew ?_))); (case side2 => exact (Kd.R_reads' HO323.out).2.1); rintro e w95 ⟨v327, rfl, ho0, hb⟩; refine ⟨_, rfl, ?_⟩; have n0_ := Aside0.mk (Kd.R_elder' (by (with_reducible repeat (first | apply Kd.R_alloc | apply Kd.R_drewN | apply Kd.R_drew)); exact HO285.out) (Kd.R_base ho0) hb); have n1_ := Aside0.mk (Kd.R_elder' (by (with_reducible repeat (first | apply Kd.R_alloc | apply Kd.R_drewN | apply Kd.R_drew)); exact HO289.out) (Kd.R_base ho0) hb); have n2_ := Aside0.mk (Kd.R_elder' (by (with_reducible repeat (first | apply Kd.R_alloc | apply Kd.R_drewN | apply Kd.R_drew)); exact HO293.out) (Kd.R_base ho0) hb); have n3_ := Aside0.mk (Kd.R_elder' (by (with_reducible repeat (first | apply Kd.R_alloc | apply Kd.R_drewN | apply Kd.R_drew)); exact HO323.out) (Kd.R_base ho0) hb); have n4_ := Aside0.mk (Kd.R_lower (Kd.R_new' (Kd.R_new' (Kd.R_new' (Kd.R_new' ho0 (Kd.R_lt (by (with_reducible repeat (first | apply Kd.R_alloc | apply Kd.R_drewN | apply Kd.R_drew)); exact HO285.out))) (Kd.R_lt (by (with_reducible repeat (first | apply Kd.R_alloc | apply Kd.R_drewN | apply Kd.R_drew)); exact HO289.out))) (Kd.R_lt (by (with_reducible repeat (first | apply Kd.R_alloc | apply Kd.R_drewN | apply Kd.R_drew)); exact HO293.out))) (Kd.R_lt (by (with_reducible repeat (first | apply Kd.R_alloc | apply Kd.R_drewN | apply Kd.R_drew)); exact HO323.out))) (below_size (by repeat (first | (with_reducible first | exact HB.out | apply below_alloc | apply pw_below_drewN | apply below_drew1) | exact HB.out)))); have n5_ := Aside0.mk (below_step (by repeat (first | (with_reducible first | exact HB.out | apply below_alloc | apply pw_below_drewN | apply below_drew1) | exact HB.out)) hb); clear HO285; clear HO289; clear HO293; clear HO323; clear HB; have HO285 := n0_; have HO289 := n1_; have HO293 := n2_; have HO323 := n3_; have HO328 := n4_; have HB := n5_; clear n0_ n1_ n2_ n3_ n4_ n5_; (try clear hb); (try clear hb2); (try clear hk); (try clear hi); (try clear ho0)) | ((with_reducible refine gate_callee (f := 16) rfl ?_); refine goesL_ (some 113) rfl rfl Try.func16 (by kernel_rfl) rfl #[.int .i64 t320, .slice Ao94 t321.length co94] rfl (by (try simp only [List.map_toArray, List.map_cons, List.map_nil]); first | done | rfl | (simp only [List.length_drop, List.length_take]; rfl)) ?_; (with_reducible refine (impl_DecodePage.calls k t320 _ _ t321 t329 t330 t331 _ ?side1 ?side2 A68.out).mono ?_); (case side1 => repeat (first | exact (Kd.R_reads' HO323.out).2.2 | (with_reducible refine Kd.C_alloc ?_ _) | (with_reducible refine Kd.C_drewN ?_ _) | (with_reducible refine Kd.C_drew ?_))); (case side2 => exact (Kd.R_reads' HO323.out).2.1); rintro e w96 ⟨v332, rfl, ho0, hb⟩; refine ⟨_, rfl, ?_⟩; have n0_ := Aside0.mk (Kd.R_elder' (by (with_reducible repeat (first | apply Kd.R_alloc | apply Kd.R_drewN | apply Kd.R_drew)); exact HO285.out) (Kd.R_base ho0) hb); have n1_ := Aside0.mk (Kd.R_elder' (by (with_reducible repeat (first | apply Kd.R_alloc | apply Kd.R_drewN | apply Kd.R_drew)); exact HO289.out) (Kd.R_base ho0) hb); have n2_ := Aside0.mk (Kd.R_elder' (by (with_reducible repeat (first | apply Kd.R_alloc | apply Kd.R_drewN | apply Kd.R_drew)); exact HO293.out) (Kd.R_base ho0) hb); have n3_ := Aside0.mk (Kd.R_elder' (by (with_reducible repeat (first | apply Kd.R_alloc | apply Kd.R_drewN | apply Kd.R_drew)); exact HO323.out) (Kd.R_base ho0) hb); have n4_ := Aside0.mk (Kd.R_elder' (by (with_reducible repeat (first | apply Kd.R_alloc | apply Kd.R_drewN | apply Kd.R_drew)); exact HO328.out) (Kd.R_base ho0) hb); have n5_ := Aside0.mk (Kd.R_lower (Kd.R_new' (Kd.R_new' (Kd.R_new' (Kd.R_new' (Kd.R_new' ho0 (Kd.R_lt (by (with_reducible repeat (first | apply Kd.R_alloc | apply Kd.R_drewN | apply Kd.R_drew)); exact HO285.out))) (Kd.R_lt (by (with_reducible repeat (first | apply Kd.R_alloc | apply Kd.R_drewN | apply Kd.R_drew)); exact HO289.out))) (Kd.R_lt (by (with_reducible repeat (first | apply Kd.R_alloc | apply Kd.R_drewN | apply Kd.R_drew)); exact HO293.out))) (Kd.R_lt (by (with_reducible repeat (first | apply Kd.R_alloc | apply Kd.R_drewN | apply Kd.R_drew)); exact HO323.out))) (Kd.R_lt (by (with_reducible repeat (first | apply Kd.R_alloc | apply Kd.R_drewN | apply Kd.R_drew)); exact HO328.out))) (below_size (by repeat (first | (with_reducible first | exact HB.out | apply below_alloc | apply pw_below_drewN | apply below_drew1) | exact HB.out)))); have n6_ := Aside0.mk (below_step (by repeat (first | (with_reducible first | exact HB.out | apply below_alloc | apply pw_below_drewN | apply below_drew1) | exact HB.out)) hb); clear HO285; clear HO289; clear HO293; clear HO323; clear HO328; clear HB; have HO285 := n0_; have HO289 := n1_; have HO293 := n2_; have HO323 := n3_; have HO328 := n4_; have HO333 := n5_; have HB := n6_; clear n0_ n1_ n2_ n3_ n4_ n5_ n6_; (try clear hb); (try clear hb2); (try clear hk); (try clear hi); (try clear ho0)))
          go_ret
          exact ⟨by first | rfl | (simp [errW_none, errW_some] <;> rfl) | (simp [*, errW_none, errW_some] <;> rfl), by repeat (first | (with_reducible first | exact HB.out | apply below_alloc | apply pw_below_drewN | apply below_drew1) | exact HB.out)⟩

/-- THE ONE PURE STATEMENT of laws_FnPage: yours. -/
def laws_FnPage.Pure : Prop := ∀ (l0 : List Int), l0.length ≤ maxLen → l0.length * 1 ≤ 140737488351232 → (∀ x ∈ l0, (Lit.int .u8 x).wf = true) → ∃ k, laws_FnPage.f k l0 = some true
theorem laws_FnPage.walk (P : laws_FnPage.Pure) (a0 : Option Addr) (len0 cap0 : Nat) (z0 : List Int) (w : World) (w0 : (a0 = none ∧ len0 = 0 ∧ cap0 = 0 ∧ z0 = []) ∨ ∃ x, a0 = some x ∧ len0 ≤ cap0 ∧ cap0 ≤ maxLen ∧ z0.length = cap0 ∧ (∀ i, i < z0.length → w.cell? (x.add i) = some (.int .u8 (z0.getD i 0))) ∧ ∀ n ∈ z0, (Lit.int .u8 n).wf = true) (y0 : len0 * 1 ≤ 140737488351232) :
    Calls Try.prog 4 #[.slice a0 len0 cap0] w fun e w' => e = .returned (.bool true) ∧ Below w.heap.size w w' := by
  obtain ⟨l0, rfl, hr0, hm0, hw0, hc0⟩ := ReadsInt.ofRowC w0
  obtain ⟨k, h⟩ := P l0 hm0 y0 hw0
  refine (laws_FnPage.calls k _ _ l0 true w (Kd.C_of_reads (d := (0 : Int)) (h1 := fun _ => rfl) hr0) hc0 h).mono ?_
  rintro e w' ⟨rfl, hd⟩
  exact ⟨rfl, hd⟩

end Go.Proofs.Ytlopmffdebhpfaa.G

/-! ## Cv -/
namespace Go.Proofs.Ytlopmffdebhpfaa.Pure
open Go.RowKit Go.Proofs.Ytlopmffdebhpfaa.G Go.Proofs.YtlopmffdebhpfaaW.PrintWords Go.Proofs.YtlopmffdebhpfaaW.PrintLast Go.Proofs.YtlopmffdebhpfaaW.PrintMore

/-- From some number of rounds on, f comes to v. -/
def Cv {α : Type} (f : Nat → Option α) (v : α) : Prop := ∃ K, ∀ k, K ≤ k → f k = some v
section
variable {α β : Type} {f : Nat → Option α} {v : α} {u : β}
theorem Cv.of {o : Option α} (h : o = some v) : Cv (fun _ => o) v := ⟨0, fun _ _ => h⟩
theorem Cv.bind {g : Nat → α → Option β} (hf : Cv f v) (hg : Cv (fun k => g k v) u) : Cv (fun k => (f k).bind (g k)) u := by
  obtain ⟨a, ha⟩ := hf
  obtain ⟨b, hb⟩ := hg
  exact ⟨max a b, fun k hk => by show (f k).bind (g k) = some u; rw [ha k (by omega), Option.bind_some]; exact hb k (by omega)⟩
theorem Cv.pos {c : Prop} [Decidable c] {g : Nat → Option α} (hc : c) (h : Cv f v) : Cv (fun k => if c then f k else g k) v := by
  obtain ⟨a, ha⟩ := h
  exact ⟨a, fun k hk => by show (if c then f k else g k) = some v; rw [if_pos hc]; exact ha k hk⟩
theorem Cv.neg {c : Prop} [Decidable c] {g : Nat → Option α} (hc : ¬ c) (h : Cv f v) : Cv (fun k => if c then g k else f k) v := by
  obtain ⟨a, ha⟩ := h
  exact ⟨a, fun k hk => by show (if c then g k else f k) = some v; rw [if_neg hc]; exact ha k hk⟩
theorem Cv.succ {g : Nat → Option α} (h : Cv f v) (hs : ∀ k, g (k + 1) = f k) : Cv g v := by
  obtain ⟨a, ha⟩ := h
  refine ⟨a + 1, fun k hk => ?_⟩
  obtain ⟨j, rfl⟩ : ∃ j, k = j + 1 := ⟨k - 1, by omega⟩
  rw [hs]
  exact ha j (by omega)
theorem Cv.from {m : Nat} (h : ∀ k, f (k + m) = some v) : Cv f v := ⟨m, fun k hk => by obtain ⟨j, rfl⟩ : ∃ j, k = j + m := ⟨k - m, by omega⟩; exact h j⟩
theorem Cv.get (h : Cv f v) : ∃ k, f k = some v := ⟨h.choose, h.choose_spec _ (Nat.le_refl _)⟩
theorem Cv.congr {g : Nat → Option α} (h : Cv f v) (e : ∀ k, g k = f k) : Cv g v := by
  have : g = f := funext e
  rw [this]
  exact h
end
/-- Bytes. -/
def By (l : List Int) : Prop := ∀ x ∈ l, 0 ≤ x ∧ x < 256
theorem wf_u8 {x : Int} (h : (Lit.int .u8 x).wf = true) : 0 ≤ x ∧ x < 256 := by
  simp [Lit.wf, IntKind.min, IntKind.max, IntKind.signed, IntKind.bits] at h
  omega
theorem wf_i64 {x : Int} (h : (Lit.int .i64 x).wf = true) : -9223372036854775808 ≤ x ∧ x ≤ 9223372036854775807 := by
  simp [Lit.wf, IntKind.min, IntKind.max, IntKind.signed, IntKind.bits] at h
  omega
theorem By.of_wf {l : List Int} (h : ∀ x ∈ l, (Lit.int .u8 x).wf = true) : By l := fun x hx => wf_u8 (h x hx)
theorem By.append {a b : List Int} (ha : By a) (hb : By b) : By (a ++ b) := fun x hx => by
  rcases List.mem_append.1 hx with h | h
  · exact ha x h
  · exact hb x h
theorem By.take {a : List Int} (h : By a) (n : Nat) : By (a.take n) := fun x hx => h x (List.mem_of_mem_take hx)
theorem By.drop {a : List Int} (h : By a) (n : Nat) : By (a.drop n) := fun x hx => h x (List.mem_of_mem_drop hx)
theorem By.nil : By [] := fun x hx => by cases hx
theorem By.cons {x : Int} {l : List Int} (h0 : 0 ≤ x ∧ x < 256) (h : By l) : By (x :: l) := fun y hy => by
  rcases List.mem_cons.1 hy with h1 | h1
  · rw [h1]; exact h0
  · exact h y h1
theorem By.zeros (n : Nat) : By (List.replicate n 0) := fun x hx => by
  rw [List.eq_of_mem_replicate hx]; decide
theorem By_rd {l : List Int} (h : By l) (i : Int) : 0 ≤ rd l i ∧ rd l i < 256 := by
  unfold rd
  rw [List.getD_eq_getElem?_getD]
  rcases Nat.lt_or_ge i.toNat l.length with h1 | h1
  · rw [List.getElem?_eq_getElem h1]
    exact h _ (List.getElem_mem h1)
  · rw [List.getElem?_eq_none h1]
    decide
theorem rd_mid (pre r : List Int) (c : Int) : rd (pre ++ c :: r) (pre.length : Int) = c := by
  unfold rd
  rw [Int.toNat_natCast, List.getD_eq_getElem?_getD, List.getElem?_append_right (Nat.le_refl _), Nat.sub_self]
  rfl
theorem w64 {n : Int} (h0 : -9223372036854775808 ≤ n) (h1 : n ≤ 9223372036854775807) : wrap64 n = n := by unfold wrap64; omega

/-! ### exclusive or -/
theorem bits_xor_nat (k : IntKind) (j : Nat) (hj : j ≤ k.bits) (hk : ∀ n : Int, 0 ≤ n → n < 2 ^ j → k.wrap n = n) (a b : Nat) (ha : a < 2 ^ j) (hb : b < 2 ^ j) : Go.bits .xor k a b = ((a ^^^ b : Nat) : Int) := by
  have hp : 2 ^ j ≤ 2 ^ k.bits := Nat.pow_le_pow_right (by decide) hj
  have ha' : a % 2 ^ k.bits = a := Nat.mod_eq_of_lt (Nat.lt_of_lt_of_le ha hp)
  have hb' : b % 2 ^ k.bits = b := Nat.mod_eq_of_lt (Nat.lt_of_lt_of_le hb hp)
  simp only [Go.bits, BitVec.ofInt_natCast, BitVec.toNat_xor, BitVec.toNat_ofNat, ha', hb']
  exact hk _ (Int.natCast_nonneg _) (by exact_mod_cast Nat.xor_lt_two_pow ha hb)
theorem xor_u32 (a b : Nat) (ha : a < 2 ^ 32) (hb : b < 2 ^ 32) : Go.bits .xor .u32 a b = ((a ^^^ b : Nat) : Int) :=
  bits_xor_nat .u32 32 (by decide) (fun n h0 h1 => by rw [IntKind.wrap_u32]; omega) a b ha hb
theorem xor_u8 (a b : Nat) (ha : a < 2 ^ 8) (hb : b < 2 ^ 8) : Go.bits .xor .u8 a b = ((a ^^^ b : Nat) : Int) :=
  bits_xor_nat .u8 8 (by decide) (fun n h0 h1 => by rw [IntKind.wrap_u8]; omega) a b ha hb
theorem xor_i64 (a b : Nat) (ha : a < 2 ^ 32) (hb : b < 2 ^ 32) : Go.bits .xor .i64 a b = ((a ^^^ b : Nat) : Int) :=
  bits_xor_nat .i64 32 (by decide) (fun n h0 h1 => by rw [IntKind.wrap_i64]; omega) a b ha hb
theorem and_u32_one (a : Nat) (ha : a < 2 ^ 32) : Go.bits .and .u32 a 1 = ((a % 2 : Nat) : Int) := by
  have h := (bits_nat .u32 32 (by decide) (fun n h0 h1 => by rw [IntKind.wrap_u32]; omega) a 1 ha (by decide)).1
  rw [show ((1 : Nat) : Int) = 1 from rfl] at h
  rw [h, Nat.and_one_is_mod]

/-! ### the checksum -/
def cstep (h : Nat) : Nat := if h % 2 = 1 then (h / 2) ^^^ 3988292384 else h / 2
def cstepN : Nat → Nat → Nat
  | 0, h => h
  | n + 1, h => cstepN n (cstep h)
def cbyte (h c : Nat) : Nat := cstepN 8 (h ^^^ c)
def cfold : Nat → List Int → Nat
  | h, [] => h
  | h, c :: r => cfold (cbyte h c.toNat) r
def crc (l : List Int) : Nat := cfold 4294967295 l ^^^ 4294967295
theorem cstep_lt {h : Nat} (hh : h < 2 ^ 32) : cstep h < 2 ^ 32 := by
  unfold cstep
  split
  · exact Nat.xor_lt_two_pow (by omega) (by decide)
  · omega
theorem cstepN_lt : ∀ (n : Nat) {h : Nat}, h < 2 ^ 32 → cstepN n h < 2 ^ 32
  | 0, _, hh => hh
  | n + 1, _, hh => cstepN_lt n (cstep_lt hh)
theorem cbyte_lt {h c : Nat} (hh : h < 2 ^ 32) (hc : c < 2 ^ 32) : cbyte h c < 2 ^ 32 := cstepN_lt 8 (Nat.xor_lt_two_pow hh hc)
theorem cfold_lt : ∀ (l : List Int) {h : Nat}, By l → h < 2 ^ 32 → cfold h l < 2 ^ 32
  | [], _, _, hh => hh
  | c :: r, _, hb, hh => cfold_lt r (fun x hx => hb x (List.mem_cons_of_mem _ hx)) (cbyte_lt hh (by have := hb c List.mem_cons_self; omega))
theorem crc_lt {l : List Int} (h : By l) : crc l < 2 ^ 32 := Nat.xor_lt_two_pow (cfold_lt l h (by decide)) (by decide)

theorem impl_l1 (k : Nat) (x7 : List Int) (x8 x9 : Int) : ∀ (m : Nat) (h : Nat), h < 2 ^ 32 → ∀ j : Nat, j + m = 8 → impl_Crc32.l1 (k + m + 1) (h : Int) x7 x8 x9 (j : Int) = impl_Crc32.l0 k ((cstepN m h : Nat) : Int) x7 x8 (wrap64 (x9 + 1))
  | 0, h, hh, j, hj => by
    unfold impl_Crc32.l1
    rw [if_neg (by omega)]
    rfl
  | m + 1, h, hh, j, hj => by
    unfold impl_Crc32.l1
    rw [if_pos (by omega), and_u32_one h hh, w64 (by omega) (by omega)]
    have ih := impl_l1 k x7 x8 x9 m (cstep h) (cstep_lt hh) (j + 1) (by omega)
    have ej : ((j : Int) + 1) = ((j + 1 : Nat) : Int) := by omega
    rw [ej]
    by_cases ho : h % 2 = 1
    · rw [if_pos (by omega)]
      have e1 : Go.bits .xor .u32 ((h : Int) / 2) 3988292384 = ((cstep h : Nat) : Int) := by
        rw [show ((h : Int) / 2) = ((h / 2 : Nat) : Int) by omega, show (3988292384 : Int) = ((3988292384 : Nat) : Int) from rfl, xor_u32 _ _ (by omega) (by decide)]
        unfold cstep
        rw [if_pos ho]
      rw [e1]
      exact ih
    · rw [if_neg (by omega)]
      have e1 : ((h : Int) / 2) = ((cstep h : Nat) : Int) := by
        unfold cstep
        rw [if_neg ho]
        omega
      rw [e1]
      exact ih
theorem impl_l0 (k : Nat) : ∀ (r pre : List Int) (h : Nat), By r → (pre ++ r).length ≤ 9223372036854775806 → h < 2 ^ 32 →
    impl_Crc32.l0 (k + 10 * r.length + 1) (h : Int) (pre ++ r) ((pre ++ r).length : Int) (pre.length : Int) = some (((cfold h r ^^^ 4294967295 : Nat)) : Int)
  | [], pre, h, hb, hl, hh => by
    unfold impl_Crc32.l0
    rw [if_neg (by simp)]
    rw [show (4294967295 : Int) = ((4294967295 : Nat) : Int) from rfl, xor_u32 _ _ hh (by decide)]
    have hx : h ^^^ 4294967295 < 2 ^ 32 := Nat.xor_lt_two_pow hh (by decide)
    rw [w64 (by omega) (by omega)]
    rfl
  | c :: r, pre, h, hb, hl, hh => by
    have hc := hb c List.mem_cons_self
    have hlen : (pre ++ c :: r).length = pre.length + r.length + 1 := by simp; omega
    rw [show k + 10 * (c :: r).length + 1 = (k + 10 * r.length + 1) + 8 + 1 + 1 by simp; omega]
    unfold impl_Crc32.l0
    rw [if_pos (by omega), if_pos (by omega), if_pos (by omega), rd_mid]
    have e1 : Go.bits .xor .u32 (h : Int) (c % 4294967296) = ((h ^^^ c.toNat : Nat) : Int) := by
      rw [show c % 4294967296 = ((c.toNat : Nat) : Int) by omega]
      exact xor_u32 _ _ hh (by omega)
    rw [e1]
    have h1 := impl_l1 (k + 10 * r.length + 1) (pre ++ c :: r) ((pre ++ c :: r).length : Int) (pre.length : Int) 8 (h ^^^ c.toNat) (Nat.xor_lt_two_pow hh (by omega)) 0 rfl
    rw [show ((0 : Nat) : Int) = 0 from rfl] at h1
    rw [h1, w64 (by omega) (by omega)]
    have ih := impl_l0 k r (pre ++ [c]) (cbyte h c.toNat) (fun x hx => hb x (List.mem_cons_of_mem _ hx)) (by simpa using hl) (cbyte_lt hh (by omega))
    rw [List.append_assoc, List.singleton_append, show (((pre ++ [c]).length : Nat) : Int) = (pre.length : Int) + 1 by simp] at ih
    exact ih
theorem impl_crc {l : List Int} (hb : By l) (hl : l.length ≤ 9223372036854775806) : Cv (fun k => impl_Crc32.f k l) ((crc l : Nat) : Int) :=
  Cv.from (m := 10 * l.length + 1) (fun k => by
    have h := impl_l0 k l [] 4294967295 hb hl (by decide)
    unfold impl_Crc32.f
    exact h)

theorem spec_l1 (k : Nat) (x0 : List Int) (x4 : Int) : ∀ (m : Nat) (h : Nat), h < 2 ^ 32 → ∀ j : Nat, j + m = 8 → spec_Crc32.l1 (k + m + 1) x0 (h : Int) x4 (j : Int) = spec_Crc32.l0 k x0 ((cstepN m h : Nat) : Int) (wrap64 (x4 + 1))
  | 0, h, hh, j, hj => by
    unfold spec_Crc32.l1
    rw [if_neg (by omega)]
    rfl
  | m + 1, h, hh, j, hj => by
    unfold spec_Crc32.l1
    rw [if_pos (by omega), w64 (n := (j : Int) + 1) (by omega) (by omega)]
    have ih := spec_l1 k x0 x4 m (cstep h) (cstep_lt hh) (j + 1) (by omega)
    have ej : ((j : Int) + 1) = ((j + 1 : Nat) : Int) := by omega
    have e2 : wrap64 (Int.tdiv (h : Int) 2) = ((h / 2 : Nat) : Int) := by
      rw [show Int.tdiv (h : Int) 2 = ((h / 2 : Nat) : Int) from rfl, w64 (by omega) (by omega)]
    have e3 : Int.tmod (h : Int) 2 = ((h % 2 : Nat) : Int) := rfl
    rw [ej, e2, e3]
    by_cases ho : h % 2 = 1
    · rw [if_pos (by omega)]
      have e1 : Go.bits .xor .i64 ((h / 2 : Nat) : Int) 3988292384 = ((cstep h : Nat) : Int) := by
        rw [show (3988292384 : Int) = ((3988292384 : Nat) : Int) from rfl, xor_i64 _ _ (by omega) (by decide)]
        unfold cstep
        rw [if_pos ho]
      rw [e1]
      exact ih
    · rw [if_neg (by omega)]
      have e1 : ((h / 2 : Nat) : Int) = ((cstep h : Nat) : Int) := by
        unfold cstep
        rw [if_neg ho]
      rw [e1]
      exact ih
theorem spec_l0 (k : Nat) : ∀ (r pre : List Int) (h : Nat), By r → (pre ++ r).length ≤ 9223372036854775806 → h < 2 ^ 32 →
    spec_Crc32.l0 (k + 10 * r.length + 1) (pre ++ r) (h : Int) (pre.length : Int) = some (((cfold h r ^^^ 4294967295 : Nat)) : Int)
  | [], pre, h, hb, hl, hh => by
    unfold spec_Crc32.l0
    rw [if_neg (by simp)]
    rw [show (4294967295 : Int) = ((4294967295 : Nat) : Int) from rfl, xor_i64 _ _ hh (by decide)]
    rfl
  | c :: r, pre, h, hb, hl, hh => by
    have hc := hb c List.mem_cons_self
    have hlen : (pre ++ c :: r).length = pre.length + r.length + 1 := by simp; omega
    rw [show k + 10 * (c :: r).length + 1 = (k + 10 * r.length + 1) + 8 + 1 + 1 by simp; omega]
    unfold spec_Crc32.l0
    rw [if_pos (by omega), if_pos (by omega), rd_mid]
    have e1 : Go.bits .xor .i64 (h : Int) (wrap64 c) = ((h ^^^ c.toNat : Nat) : Int) := by
      rw [w64 (by omega) (by omega)]
      obtain ⟨n, rfl⟩ := Int.eq_ofNat_of_zero_le hc.1
      exact xor_i64 _ _ hh (by omega)
    rw [e1]
    have h1 := spec_l1 (k + 10 * r.length + 1) (pre ++ c :: r) (pre.length : Int) 8 (h ^^^ c.toNat) (Nat.xor_lt_two_pow hh (by omega)) 0 rfl
    rw [show ((0 : Nat) : Int) = 0 from rfl] at h1
    rw [h1, w64 (by omega) (by omega)]
    have ih := spec_l0 k r (pre ++ [c]) (cbyte h c.toNat) (fun x hx => hb x (List.mem_cons_of_mem _ hx)) (by simpa using hl) (cbyte_lt hh (by omega))
    rw [List.append_assoc, List.singleton_append, show (((pre ++ [c]).length : Nat) : Int) = (pre.length : Int) + 1 by simp] at ih
    exact ih
theorem spec_crc {l : List Int} (hb : By l) (hl : l.length ≤ 9223372036854775806) : Cv (fun k => spec_Crc32.f k l) ((crc l : Nat) : Int) :=
  Cv.from (m := 10 * l.length + 1) (fun k => by
    have h := spec_l0 k l [] 4294967295 hb hl (by decide)
    unfold spec_Crc32.f
    exact h)
end Go.Proofs.Ytlopmffdebhpfaa.Pure

/-! ## Enc -/
namespace Go.Proofs.Ytlopmffdebhpfaa.Pure
open Go.RowKit Go.Proofs.Ytlopmffdebhpfaa.G Go.Proofs.YtlopmffdebhpfaaW.PrintWords Go.Proofs.YtlopmffdebhpfaaW.PrintLast Go.Proofs.YtlopmffdebhpfaaW.PrintMore

/-- A number in n bytes. -/
def leN : Nat → Nat → List Int
  | 0, _ => []
  | n + 1, v => ((v % 256 : Nat) : Int) :: leN n (v / 256)
theorem leN_length : ∀ (n v : Nat), (leN n v).length = n
  | 0, _ => rfl
  | n + 1, v => by simp [leN, leN_length n]
theorem leN_by : ∀ (n v : Nat), By (leN n v)
  | 0, _ => By.nil
  | n + 1, v => By.cons ⟨by omega, by omega⟩ (leN_by n _)

theorem spec_num_l0 (k n : Nat) (hn : n < 1000) : ∀ (m v i : Nat) (acc : List Int), i + m = n → v < 2 ^ 63 → acc.length + m < 1000 → spec_l2Num.l0 (k + m + 1) (v : Int) (n : Int) acc (i : Int) = some (acc ++ leN m v)
  | 0, v, i, acc, hi, hv, hl => by
    unfold spec_l2Num.l0
    rw [if_neg (by omega)]
    simp [leN]
  | m + 1, v, i, acc, hi, hv, hl => by
    unfold spec_l2Num.l0
    rw [if_pos (by omega), if_pos (by omega), w64 (n := (i : Int) + 1) (by omega) (by omega)]
    rw [show Int.tdiv (v : Int) 256 = ((v / 256 : Nat) : Int) from rfl, w64 (by omega) (by omega), show Int.tmod (v : Int) 256 = ((v % 256 : Nat) : Int) from rfl]
    rw [show ((v % 256 : Nat) : Int) % 256 = ((v % 256 : Nat) : Int) by omega]
    have ih := spec_num_l0 k n hn m (v / 256) (i + 1) (acc ++ [((v % 256 : Nat) : Int)]) (by omega) (by omega) (by simp; omega)
    rw [show (((i + 1 : Nat)) : Int) = (i : Int) + 1 by omega] at ih
    rw [show k + (m + 1) = k + m + 1 by omega, ih]
    simp [leN]
theorem spec_num {v n : Nat} (hv : v < 2 ^ 63) (hn : n < 999) : Cv (fun k => spec_l2Num.f k (v : Int) (n : Int)) (leN n v) :=
  Cv.from (m := n + 1) (fun k => by
    have h := spec_num_l0 k n (by omega) n v 0 [] (by omega) hv (by simp; omega)
    unfold spec_l2Num.f
    exact h)

theorem impl_low_l0 (k v n : Nat) (hn : n ≤ 8) (hv : v < 2 ^ 63) : ∀ (m i : Nat) (pre : List Int), i + m = n → pre.length = i → impl_low.l0 (k + m + 1) (v : Int) (pre ++ List.replicate m 0) (n : Int) (i : Int) = some (pre ++ leN m (v / 2 ^ (8 * i)))
  | 0, i, pre, hi, hp => by
    unfold impl_low.l0
    rw [if_neg (by omega)]
    simp [leN]
  | m + 1, i, pre, hi, hp => by
    unfold impl_low.l0
    have hlen : (pre ++ List.replicate (m + 1) (0 : Int)).length = n := by simp; omega
    rw [w64 (n := 8 * (i : Int)) (by omega) (by omega)]
    rw [if_pos (by omega), if_pos (by omega), if_pos (by omega), if_pos (by omega), w64 (n := (i : Int) + 1) (by omega) (by omega)]
    have e1 : shr .i64 (v : Int) (8 * (i : Int)) % 256 = ((v / 2 ^ (8 * i) % 256 : Nat) : Int) := by
      unfold shr
      rw [show (8 * (i : Int)).toNat = 8 * i by omega, show min (8 * i) IntKind.i64.bits = 8 * i from Nat.min_eq_left (by show 8 * i ≤ 64; omega)]
      rw [show ((2 : Int) ^ (8 * i)) = ((2 ^ (8 * i) : Nat) : Int) by push_cast; rfl]
      rfl
    rw [e1]
    have e2 : (pre ++ List.replicate (m + 1) (0 : Int)).set ((i : Int)).toNat ((v / 2 ^ (8 * i) % 256 : Nat) : Int) = (pre ++ [((v / 2 ^ (8 * i) % 256 : Nat) : Int)]) ++ List.replicate m 0 := by
      rw [Int.toNat_natCast, List.set_append_right _ _ (by omega), show i - pre.length = 0 by omega, List.replicate_succ, List.set_cons_zero, List.append_assoc, List.singleton_append]
    rw [e2]
    have ih := impl_low_l0 k v n hn hv m (i + 1) (pre ++ [((v / 2 ^ (8 * i) % 256 : Nat) : Int)]) (by omega) (by simp; omega)
    rw [show (((i + 1 : Nat)) : Int) = (i : Int) + 1 by omega] at ih
    rw [show k + (m + 1) = k + m + 1 by omega, ih]
    simp only [leN, List.append_assoc, List.singleton_append]
    rw [show 8 * (i + 1) = 8 * i + 8 by omega, Nat.pow_add, ← Nat.div_div_eq_div_mul]
theorem impl_num {v n : Nat} (hv : v < 2 ^ 63) (hn : n ≤ 8) : Cv (fun k => impl_low.f k (v : Int) (n : Int)) (leN n v) :=
  Cv.from (m := n + 1) (fun k => by
    have h := impl_low_l0 k v n hn hv n 0 [] (by omega) rfl
    unfold impl_low.f
    rw [if_pos (by omega), if_pos (by omega), Option.bind_some, Int.toNat_natCast, List.length_replicate, ← Nat.add_assoc]
    simpa using h)

/-- The page's bytes behind the checksum; the page. -/
def restOf (id kind : Nat) (body : List Int) : List Int := leN 4 id ++ ([((kind % 256 : Nat) : Int), 0] ++ (leN 2 body.length ++ ([0, 0, 0, 0] ++ (body ++ List.replicate (240 - body.length) 0))))
def pageOf (id kind : Nat) (body : List Int) : List Int := leN 4 (crc (restOf id kind body)) ++ restOf id kind body
theorem zeros4 : leN 4 0 = [0, 0, 0, 0] := rfl
theorem restOf_length (id kind : Nat) {body : List Int} (h : body.length ≤ 240) : (restOf id kind body).length = 252 := by
  simp [restOf, leN_length]; omega
theorem restOf_by (id kind : Nat) {body : List Int} (h : By body) : By (restOf id kind body) := by
  refine (leN_by _ _).append (By.append (By.cons ⟨by omega, by omega⟩ (By.cons (by decide) By.nil)) ((leN_by _ _).append (By.append (By.zeros 4) (By.append h (By.zeros _)))))
theorem pageOf_length (id kind : Nat) {body : List Int} (h : body.length ≤ 240) : (pageOf id kind body).length = 256 := by
  simp [pageOf, leN_length, restOf_length id kind h]
theorem pageOf_by (id kind : Nat) {body : List Int} (h : By body) : By (pageOf id kind body) := (leN_by _ _).append (restOf_by _ _ h)

theorem head_bytes {id kind size : Nat} (hi : id < 2 ^ 32) (hs : size < 2 ^ 16) : Cv (fun k => impl_head_bytes.f k (id : Int) (kind : Int) (size : Int)) (leN 4 id ++ ([((kind % 256 : Nat) : Int), 0] ++ (leN 2 size ++ [0, 0, 0, 0]))) := by
  unfold impl_head_bytes.f
  refine Cv.bind (impl_num (n := 4) (by omega) (by omega)) ?_
  refine Cv.bind (impl_num (n := 2) (by omega) (by omega)) ?_
  refine Cv.bind (impl_num (v := 0) (n := 4) (by omega) (by omega)) ?_
  refine Cv.of ?_
  unfold bytes_Join.f
  rw [if_pos]
  · simp only [Option.bind_some, Option.some.injEq, zeros4]
    simp
  · refine ⟨by simp, rfl, by simp, by simp [leN_length], ?_⟩
    have hall : ∀ l ∈ [leN 4 id, [(kind : Int) % 256, 0], leN 2 size, leN 4 0], By l := by
      intro l hl
      simp only [List.mem_cons, List.not_mem_nil, or_false] at hl
      rcases hl with rfl | rfl | rfl | rfl
      · exact leN_by _ _
      · exact By.cons ⟨by omega, by omega⟩ (By.cons (by decide) By.nil)
      · exact leN_by _ _
      · exact leN_by _ _
    exact hall
theorem spl_mid (a b c y : List Int) (o : Nat) (ho : a.length = o) (hy : y.length = b.length) : spl (a ++ (b ++ c)) o y = a ++ (y ++ c) := by
  subst ho
  unfold spl
  rw [List.take_left', hy, List.append_assoc]
  · congr 2
    rw [← List.append_assoc, ← List.length_append, List.drop_left']
    rfl
  · rfl

theorem page_bytes {id kind : Nat} {body : List Int} (hi : id < 2 ^ 32) (hb : By body) (hl : body.length ≤ 240) : Cv (fun k => impl_page_bytes.f k (id : Int) (kind : Int) (body.length : Int) body) (pageOf id kind body) := by
  unfold impl_page_bytes.f
  refine Cv.bind (head_bytes hi (by omega)) ?_
  refine Cv.pos (by simp [leN_length]) (Cv.pos hl ?_)
  have e1 : pageRest (leN 4 id ++ ([((kind % 256 : Nat) : Int), 0] ++ (leN 2 body.length ++ [0, 0, 0, 0]))) body = [0, 0, 0, 0] ++ restOf id kind body := by
    have hz : List.replicate 256 (0 : Int) = List.replicate 4 0 ++ (List.replicate 12 0 ++ (List.replicate body.length 0 ++ List.replicate (240 - body.length) 0)) := by
      rw [List.replicate_append_replicate, List.replicate_append_replicate, List.replicate_append_replicate]
      congr 1
      omega
    unfold pageRest
    rw [hz, spl_mid _ _ _ _ 4 (by simp) (by simp [leN_length]), ← List.append_assoc, spl_mid _ _ _ _ 16 (by simp [leN_length]) (by simp)]
    simp [restOf, List.append_assoc, List.replicate_succ]
  rw [e1]
  have e2 : ([0, 0, 0, 0] ++ restOf id kind body).drop 4 = restOf id kind body := rfl
  rw [e2]
  refine Cv.bind (impl_crc (restOf_by _ _ hb) (by rw [restOf_length _ _ hl]; decide)) ?_
  refine Cv.bind (impl_num (n := 4) (by have := crc_lt (restOf_by id kind hb); omega) (by omega)) ?_
  refine Cv.pos (by simp [leN_length]) (Cv.of ?_)
  unfold spl pageOf
  rw [leN_length]
  simp

/-! ### the document's page -/
def okPage (id kind : Int) (n : Nat) : Prop := 0 ≤ id ∧ id ≤ 1023 ∧ 1 ≤ kind ∧ kind ≤ 4 ∧ n ≤ 240
instance (id kind : Int) (n : Nat) : Decidable (okPage id kind n) := by unfold okPage; exact inferInstance
theorem spec_pad (k : Nat) (g : List Int → Option (List Int × Bool)) (hg : True) : ∀ (m : Nat) (x : List Int), x.length + m = 252 → spec_EncodePage.l0 (k + m) x = spec_EncodePage.l0 k (x ++ List.replicate m 0)
  | 0, x, h => by simp
  | m + 1, x, h => by
    have ih := spec_pad k g hg m (x ++ [0]) (by simp; omega)
    rw [show k + (m + 1) = (k + m) + 1 by omega]
    conv => lhs; unfold spec_EncodePage.l0
    rw [if_pos (by omega), if_pos (by omega), ih, List.append_assoc]
    rfl
theorem spec_tail {x : List Int} (hb : By x) (hx : x.length ≤ 252) : Cv (fun k => spec_EncodePage.l0 k x) (leN 4 (crc (x ++ List.replicate (252 - x.length) 0)) ++ (x ++ List.replicate (252 - x.length) 0), true) := by
  have hb2 : By (x ++ List.replicate (252 - x.length) 0) := hb.append (By.zeros _)
  have hlen : (x ++ List.replicate (252 - x.length) (0 : Int)).length = 252 := by simp; omega
  have h1 : Cv (fun k => spec_EncodePage.l0 k (x ++ List.replicate (252 - x.length) 0)) (leN 4 (crc (x ++ List.replicate (252 - x.length) 0)) ++ (x ++ List.replicate (252 - x.length) 0), true) := by
    refine Cv.succ (f := fun k => (spec_Crc32.f k (x ++ List.replicate (252 - x.length) 0)).bind fun t138 => ((spec_l2Num.f k t138 4).bind fun t139 => (if t139.length + (x ++ List.replicate (252 - x.length) (0 : Int)).length < 140737488355328 then (some ((t139 ++ (x ++ List.replicate (252 - x.length) 0)), true)) else (none)))) ?_ (fun k => ?_)
    · refine Cv.bind (spec_crc hb2 (by omega)) (Cv.bind (spec_num (n := 4) (by have := crc_lt hb2; omega) (by omega)) ?_)
      exact Cv.pos (by rw [leN_length, hlen]; decide) (Cv.of rfl)
    · conv => lhs; unfold spec_EncodePage.l0
      rw [if_neg (by omega)]
  obtain ⟨K, hK⟩ := h1
  refine ⟨K + (252 - x.length), fun k hk => ?_⟩
  obtain ⟨j, rfl⟩ : ∃ j, k = j + (252 - x.length) := ⟨k - (252 - x.length), by omega⟩
  show spec_EncodePage.l0 (j + (252 - x.length)) x = _
  rw [spec_pad j (fun _ => none) trivial (252 - x.length) x (by omega)]
  exact hK j (by omega)
theorem spec_j0_true (x0 x1 : Int) (x2 : List Int) : Cv (fun k => spec_EncodePage.j0 k x0 x1 x2 true) ([], false) :=
  Cv.from (m := 1) (fun k => by unfold spec_EncodePage.j0; dsimp only; rw [if_pos rfl])
theorem spec_j0_false {id kind : Nat} {body : List Int} (hi : id ≤ 1023) (hb : By body) (hl : body.length ≤ 240) : Cv (fun k => spec_EncodePage.j0 k (id : Int) (kind : Int) body false) (pageOf id kind body, true) := by
  refine Cv.succ (f := fun k => (spec_l2Num.f k (id : Int) 4).bind fun t111 => ((some (([((kind : Int)) % 256, 0] : List Int) : List Int)).bind fun y114 => (if t111.length + y114.length < 140737488355328 then ((some (t111 ++ y114 : List Int)).bind fun y117 => ((spec_l2Num.f k (body.length : Int) 2).bind fun t120 => (if y117.length + t120.length < 140737488355328 then ((some (y117 ++ t120 : List Int)).bind fun y123 => ((some (([0, 0, 0, 0] : List Int) : List Int)).bind fun y126 => (if y123.length + y126.length < 140737488355328 then ((some (y123 ++ y126 : List Int)).bind fun y129 => (if y129.length + body.length < 140737488355328 then (spec_EncodePage.l0 k (y129 ++ body)) else (none))) else (none)))) else (none)))) else (none)))) ?_ (fun k => ?_)
  · refine Cv.bind (spec_num (n := 4) (by omega) (by omega)) ?_
    refine Cv.bind (Cv.of rfl) ?_
    refine Cv.pos (by simp [leN_length]) ?_
    refine Cv.bind (Cv.of rfl) ?_
    refine Cv.bind (spec_num (n := 2) (by omega) (by omega)) ?_
    refine Cv.pos (by simp [leN_length]) ?_
    refine Cv.bind (Cv.of rfl) ?_
    refine Cv.bind (Cv.of rfl) ?_
    refine Cv.pos (by simp [leN_length]) ?_
    refine Cv.bind (Cv.of rfl) ?_
    refine Cv.pos (by simp [leN_length]; omega) ?_
    have hx : By (leN 4 id ++ [((kind : Int)) % 256, 0] ++ leN 2 body.length ++ [0, 0, 0, 0] ++ body) :=
      ((((leN_by _ _).append (By.cons ⟨by omega, by omega⟩ (By.cons (by decide) By.nil))).append (leN_by _ _)).append (By.zeros 4)).append hb
    have hlen : (leN 4 id ++ [((kind : Int)) % 256, 0] ++ leN 2 body.length ++ [0, 0, 0, 0] ++ body).length = 12 + body.length := by simp [leN_length]; omega
    have h := spec_tail hx (by omega)
    have e : (leN 4 id ++ [((kind : Int)) % 256, 0] ++ leN 2 body.length ++ [0, 0, 0, 0] ++ body) ++ List.replicate (252 - (leN 4 id ++ [((kind : Int)) % 256, 0] ++ leN 2 body.length ++ [0, 0, 0, 0] ++ body).length) 0 = restOf id kind body := by
      rw [hlen, show 252 - (12 + body.length) = 240 - body.length by omega]
      simp [restOf, List.append_assoc]
    rw [e] at h
    exact h
  · conv => lhs; unfold spec_EncodePage.j0
    dsimp only
    rw [if_neg (by decide)]
/-- What EncodePage gives. -/
def encV (id kind : Int) (body : List Int) : List Int × Bool := if okPage id kind body.length then (pageOf id.toNat kind.toNat body, true) else ([], false)
theorem spec_enc {id kind : Int} {body : List Int} (hb : By body) : Cv (fun k => spec_EncodePage.f k id kind body) (encV id kind body) := by
  unfold spec_EncodePage.f encV
  by_cases h1 : id < 0
  · rw [if_neg (by unfold okPage; omega)]
    exact Cv.pos h1 (spec_j0_true _ _ _)
  refine Cv.neg h1 ?_
  by_cases h2 : id > 1023
  · rw [if_neg (by unfold okPage; omega)]
    exact Cv.pos h2 (spec_j0_true _ _ _)
  refine Cv.neg h2 ?_
  by_cases h3 : kind < 1
  · rw [if_neg (by unfold okPage; omega)]
    exact Cv.pos h3 (spec_j0_true _ _ _)
  refine Cv.neg h3 ?_
  by_cases h4 : kind > 4
  · rw [if_neg (by unfold okPage; omega)]
    exact Cv.pos h4 (spec_j0_true _ _ _)
  refine Cv.neg h4 ?_
  by_cases h5 : (body.length : Int) > 240
  · rw [if_neg (by unfold okPage; omega), decide_eq_true h5]
    exact spec_j0_true _ _ _
  · rw [if_pos (by unfold okPage; omega), decide_eq_false h5]
    obtain ⟨i, rfl⟩ := Int.eq_ofNat_of_zero_le (show 0 ≤ id by omega)
    obtain ⟨q, rfl⟩ := Int.eq_ofNat_of_zero_le (show 0 ≤ kind by omega)
    exact spec_j0_false (by omega) hb (by omega)
theorem valid_eq (id kind size : Int) : impl_head_valid.f id kind size = some (decide (0 ≤ id ∧ id ≤ 1023 ∧ 1 ≤ kind ∧ kind ≤ 4 ∧ size ≤ 240)) := by
  unfold impl_head_valid.f
  split
  · split
    · split
      · split
        · simp_all
        · rw [decide_eq_false (by omega)]
      · rw [decide_eq_false (by omega)]
    · rw [decide_eq_false (by omega)]
  · rw [decide_eq_false (by omega)]
theorem impl_enc {id kind : Int} {body : List Int} (hb : By body) : Cv (fun k => impl_EncodePage.f k id kind body) (encV id kind body) := by
  unfold impl_EncodePage.f encV
  refine Cv.bind (Cv.of (valid_eq _ _ _)) ?_
  by_cases h : okPage id kind body.length
  · rw [if_pos h]
    unfold okPage at h
    refine Cv.pos (decide_eq_true (by omega)) ?_
    obtain ⟨i, rfl⟩ := Int.eq_ofNat_of_zero_le (show 0 ≤ id by omega)
    obtain ⟨q, rfl⟩ := Int.eq_ofNat_of_zero_le (show 0 ≤ kind by omega)
    exact Cv.bind (page_bytes (by omega) hb (by omega)) (Cv.of rfl)
  · rw [if_neg h]
    unfold okPage at h
    exact Cv.neg (by rw [decide_eq_true_eq]; omega) (Cv.of rfl)
end Go.Proofs.Ytlopmffdebhpfaa.Pure

/-! ## G15 -/
namespace Go.Proofs.Ytlopmffdebhpfaa.G
open Go.RowKit Go.Proofs.YtlopmffdebhpfaaW.PrintWords Go.Proofs.YtlopmffdebhpfaaW.PrintLast Go.Proofs.YtlopmffdebhpfaaW.PrintMore
attribute [local go_sem] max2_int min2_int max_two min_two max_three min_three max_four min_four
set_option linter.unusedVariables false
set_option linter.unusedSimpArgs false

/-! ### laws_toByteS: function 15 -/
def laws_toByteS.l0 : Nat → List Int → List Int → Int → Option (List Int)
  | 0, _, _, _ => none
  | k + 1, x0, x3, x4 => if x4 < (x0.length : Int) then (if 0 ≤ x4 then (if x4 < (x3.length : Int) then (laws_toByteS.l0 k x0 (x3.set (x4 : Int).toNat (rd x0 x4)) (wrap64 (x4 + 1))) else (none)) else (none)) else (some x3)
def laws_toByteS.f (k : Nat) (l0 : List Int) : Option (List Int) := if 0 ≤ (l0.length : Int) then (if ((l0.length : Int) : Int).toNat ≤ 281474976710656 then (laws_toByteS.l0 k l0 (List.replicate ((l0.length : Int) : Int).toNat 0) 0) else (none)) else (none)
set_option maxRecDepth 100000 in
theorem laws_toByteS.mono_l : ∀ k, (∀ y0 y1 y2, LeO (laws_toByteS.l0 k y0 y1 y2) (laws_toByteS.l0 (k + 1) y0 y1 y2))
  | 0 => fun _ _ _ r h => by simp [laws_toByteS.l0] at h
  | k + 1 => by
    have ih0 := laws_toByteS.mono_l k
    · intro y0 y1 y2
      unfold laws_toByteS.l0
      repeat' first
      | (with_reducible exact ih0 _ _ _)
      | (with_reducible exact LeO.refl _)
      | (with_reducible exact LeO.none _)
      | (with_reducible refine LeO.ite ?_ ?_)
      | (with_reducible refine LeO.bind ?_ (fun _ => ?_))
      | exact ih0 _ _ _
      | exact LeO.none _
      | refine LeO.ite ?_ ?_
      | refine LeO.bind ?_ (fun _ => ?_)
set_option maxRecDepth 100000 in
theorem laws_toByteS.mono : ∀ a0 k, LeO (laws_toByteS.f k a0) (laws_toByteS.f (k + 1) a0) := by
  intro a0 k
  have ih0 := laws_toByteS.mono_l k
  unfold laws_toByteS.f
  repeat' first
      | (with_reducible exact ih0 _ _ _)
      | (with_reducible exact LeO.refl _)
      | (with_reducible exact LeO.none _)
      | (with_reducible refine LeO.ite ?_ ?_)
      | (with_reducible refine LeO.bind ?_ (fun _ => ?_))
      | exact ih0 _ _ _
      | exact LeO.none _
      | refine LeO.ite ?_ ?_
      | refine LeO.bind ?_ (fun _ => ?_)
set_option maxHeartbeats 8000000 in
set_option maxRecDepth 100000 in
theorem laws_toByteS.calls (k : Nat) (A0 : Option Addr) (c0 : Nat) (l0 : List Int) (r : List Int) (w : World) (hr0 : Kd.C (Kd.int .u8) w A0 l0.length l0) (hc0 : l0.length ≤ c0) (h : laws_toByteS.f k l0 = some r) :
    Calls Try.prog 15 #[.slice A0 l0.length c0] w fun e w' => ∃ v0_ : Value, e = .returned (v0_) ∧ Kd.R (Kd.int .u8) 5 w' w.heap.size (fun _ => True) v0_ r ∧ Below w.heap.size w w' := by
  have HR0 := Aside0.mk hr0
  have HC0 := Aside0.mk hc0
  clear hr0 hc0
  have HB := Aside0.mk (Below.refl w.heap.size w)
  have H : (if 0 ≤ (l0.length : Int) then (if ((l0.length : Int) : Int).toNat ≤ 281474976710656 then (laws_toByteS.l0 k l0 (List.replicate ((l0.length : Int) : Int).toNat 0) 0) else (none)) else (none)) = some r := h
  clear h
  by_cases c2 : 0 ≤ (l0.length : Int)
  · rw [if_pos c2] at H
    have c2b0 := eq_true c2
    have c2b1 : decide (0 ≤ (l0.length : Int)) = true := decide_eq_true c2
    clear c2
    by_cases c3 : ((l0.length : Int) : Int).toNat ≤ 281474976710656
    · rw [if_pos c3] at H
      have c3b0 := eq_true c3
      have c3b1 : decide (((l0.length : Int) : Int).toNat ≤ 281474976710656) = true := decide_eq_true c3
      clear c3
      obtain ⟨y171, hy171⟩ : ∃ y_ : List Int, y_ = (List.replicate ((l0.length : Int) : Int).toNat 0) := ⟨_, rfl⟩
      replace H : (laws_toByteS.l0 k l0 y171 0) = some r := by first | (rw [hy171]; with_reducible exact H) | (have H2_ := (Option.bind_some _ _).symm.trans H; rw [hy171]; with_reducible exact H2_) | (have H2_ := (Option.bind_some _ _).symm.trans H; with_reducible exact H2_) | with_reducible exact H | (rw [hy171]; exact H) | exact H
      have Ny171 := Aside0.mk hy171
      clear hy171
      have H' := Aside0.mk H
      clear H
      go_enter Try.func15, Try.ntmps15
      go_wp2_with (first | ((with_reducible refine gate_dst (N := 7) rfl ?_); refine Kd.R_make (Kd.int .u8) _ 5 rfl (N := 7) rfl 22 _ _ rfl (l0.length : Int) rfl rfl Try.underlying22 (.int .u8 0) 1 info5 rfl (by decide) (by omega) 0 (ok := fun _ => True) (okp := fun _ => True) rfl (fun _ hk => hk) trivial (of_decide_eq_true (by first | (with_reducible assumption) | assumption)) (Nat.le_trans (Nat.mul_le_mul_right _ (of_decide_eq_true (by first | (with_reducible assumption) | assumption) : (l0.length : Int).toNat ≤ 281474976710656)) (by omega)) (Below.refl _ _) (Nat.le_refl _) ?_; intro v172 w4 ho5 hb hg_ hnew_; clear hg_ hnew_; (first | rw [← Ny171.out] at ho5 | (simp only [Int.reduceToNat] at ho5; rw [← Ny171.out] at ho5)); have n0_ := Aside0.mk (Kd.R_lower ho5 (below_size (by repeat (first | (with_reducible first | exact HB.out | apply below_alloc | apply pw_below_drewN | apply below_drew1) | exact HB.out)))); have n1_ := Aside0.mk (below_step (by repeat (first | (with_reducible first | exact HB.out | apply below_alloc | apply pw_below_drewN | apply below_drew1) | exact HB.out)) hb); clear HB; have HO173 := n0_; have HB := n1_; clear n0_ n1_; clear hb ho5))
      go_loopg [4] k (fun kq v4 w' => ∃ (x3_1 : List Int) (x4_1 : Int), v4 = .int .i64 x4_1 ∧ Aside0 (laws_toByteS.l0 kq l0 x3_1 x4_1 = some r) ∧ Aside0 (kq ≤ k) ∧ Aside0 (Kd.R (Kd.int .u8) 5 w' w.heap.size (fun _ => True) v172 x3_1) ∧ Aside0 (Below w.heap.size w w'))
      case atStart => exact ⟨(y171), (0), (by first | rfl | (simp; done) | (simp [*]; done)), H', ⟨Nat.le_refl _⟩, ⟨by (with_reducible repeat (first | apply Kd.R_alloc | apply Kd.R_drewN | apply Kd.R_drew)); exact HO173.out⟩, ⟨by repeat (first | (with_reducible first | exact HB.out | apply below_alloc | apply pw_below_drewN | apply below_drew1) | exact HB.out)⟩⟩
      case round =>
        clear H'
        try clear c1
        try clear c2
        try clear c2b0
        try clear c2b1
        try clear p2
        try clear c3
        try clear c3b0
        try clear c3b1
        obtain ⟨x3_1, x4_1, rfl, HA, HK1, HO_3, HB⟩ := hrel
        cases gk with
        | zero => exact absurd HA.out (by simp [laws_toByteS.l0])
        | succ k1 =>
          have H := HA.out
          clear HA
          simp only [laws_toByteS.l0] at H
          by_cases c6 : x4_1 < (l0.length : Int)
          · rw [if_pos c6] at H
            have c6b0 : decide (x4_1 < (l0.length : Int)) = true := decide_eq_true c6
            clear c6
            by_cases c7 : 0 ≤ x4_1
            · rw [if_pos c7] at H
              have c7b0 : decide (0 ≤ x4_1) = true := decide_eq_true c7
              clear c7
              by_cases c8 : x4_1 < (x3_1.length : Int)
              · rw [if_pos c8] at H
                have c8b0 : decide (x4_1 < (x3_1.length : Int)) = true := decide_eq_true c8
                clear c8
                obtain ⟨y175, hy175⟩ : ∃ y_ : List Int, y_ = (x3_1.set (x4_1 : Int).toNat (rd l0 x4_1)) := ⟨_, rfl⟩
                replace H : (laws_toByteS.l0 k1 l0 y175 (wrap64 (x4_1 + 1))) = some r := by first | (rw [hy175]; with_reducible exact H) | (have H2_ := (Option.bind_some _ _).symm.trans H; rw [hy175]; with_reducible exact H2_) | (have H2_ := (Option.bind_some _ _).symm.trans H; with_reducible exact H2_) | with_reducible exact H | (rw [hy175]; exact H) | exact H
                have Ny175 := Aside0.mk hy175
                clear hy175
                have H' := Aside0.mk H
                clear H
                have p174 : 0 ≤ (x4_1 : Int) := of_decide_eq_true (by first | (with_reducible assumption) | assumption)
                have q174 : x4_1 < (l0.length : Int) := of_decide_eq_true (by first | (with_reducible assumption) | assumption)
                obtain ⟨ad174, e174, hx174_0⟩ := Kd.at_int HR0.out x4_1 p174 q174
                cases e174
                replace hx174_0 := (HB.out.cell (World.block_lt_of_cell? w _ hx174_0)).trans hx174_0
                replace p174 := eq_true p174
                replace q174 := eq_true q174
                have p9 : 0 ≤ (x4_1 : Int) := of_decide_eq_true (by first | (with_reducible assumption) | assumption)
                have q9 : (x4_1 : Int) < ((x3_1.length : Int) : Int) := of_decide_eq_true (by first | (with_reducible assumption) | assumption)
                obtain ⟨go9, co9, eo9, gb9, gl9, cl9, HG9⟩ := Kd.R_form HO_3.out (by omega)
                (first | cases eo9 | (injection eo9 with ea_ en_ ec_; (first | subst ea_ | (injection ea_ with ea_; subst ea_)); subst ec_; clear en_))
                have GB9 := Aside0.mk gb9
                have GG9 := Aside0.mk HG9
                clear gb9 gl9 HG9
                obtain ⟨hx9_0, hf9_0⟩ := Kd.R_celln 0 HO_3.out (x4_1 : Int) p9 q9
                replace p9 := eq_true p9
                replace q9 := eq_true q9
                have HP10 := Kd.R_putg HO_3.out (x4_1 : Int) (rd l0 x4_1)
                go_wp2_with (first | ((with_reducible refine gate_store (t := 5) (p := 20) rfl ?_); refine store_event (t := 5) (p := 20) (v := ?vo_w11) (w1 := (wr.setCell ⟨go9, (x4_1 : Int).toNat, none⟩ (.int .u8 (rd l0 x4_1)))) ?hg ?ho ?hn ?hr ?_; (case ho => rfl); (case hg => rfl); (case hn => rfl); (case hr => first | (go_simp; done) | (go_simp; rfl)); intro w11 hw; have hg : wr.grownBy w11 (some go9) := (by rw [hw]; exact HP10.2); have hp_ : Kd.R (Kd.int .u8) 5 w11 w.heap.size (fun _ => True) (.slice (some ⟨go9, 0, none⟩) x3_1.length co9) y175 := (by rw [hw, Ny175.out]; exact HP10.1); clear HP10; have n0_ := Aside0.mk (hp_); have n1_ := Aside0.mk ((by rw [hw]; exact below_set (HB.out) GB9.out : Below w.heap.size w w11)); clear HO_3; clear HB; have HO_3 := n0_; have HB := n1_; clear n0_ n1_; clear hg hw hp_))
                go_roundg k1
                case measure => have := HK1.out; omega
                case rel => exact ⟨(y175), (wrap64 (x4_1 + 1)), (by first | rfl | (simp; done) | (simp [*]; done)), H', ⟨by have := HK1.out; omega⟩, ⟨by (with_reducible repeat (first | apply Kd.R_alloc | apply Kd.R_drewN | apply Kd.R_drew)); exact HO_3.out⟩, ⟨by repeat (first | (with_reducible first | exact HB.out | apply below_alloc | apply pw_below_drewN | apply below_drew1) | exact HB.out)⟩⟩
              · rw [if_neg c8] at H
                exact absurd H (by simp)
            · rw [if_neg c7] at H
              exact absurd H (by simp)
          · rw [if_neg c6] at H
            have c6b0 : decide (x4_1 < (l0.length : Int)) = false := decide_eq_false c6
            clear c6
            obtain rfl := Option.some.inj H
            go_wp2
            go_ret
            exact ⟨_, by first | rfl | (simp [errW_none, errW_some] <;> rfl) | (simp [*, errW_none, errW_some] <;> rfl), by (with_reducible repeat (first | apply Kd.R_alloc | apply Kd.R_drewN | apply Kd.R_drew)); exact HO_3.out, by repeat (first | (with_reducible first | exact HB.out | apply below_alloc | apply pw_below_drewN | apply below_drew1) | exact HB.out)⟩
    · rw [if_neg c3] at H
      exact absurd H (by simp)
  · rw [if_neg c2] at H
    exact absurd H (by simp)

end Go.Proofs.Ytlopmffdebhpfaa.G

/-! ## G17 -/
namespace Go.Proofs.Ytlopmffdebhpfaa.G
open Go.RowKit Go.Proofs.YtlopmffdebhpfaaW.PrintWords Go.Proofs.YtlopmffdebhpfaaW.PrintLast Go.Proofs.YtlopmffdebhpfaaW.PrintMore
attribute [local go_sem] max2_int min2_int max_two min_two max_three min_three max_four min_four
set_option linter.unusedVariables false
set_option linter.unusedSimpArgs false

/-! ### laws_eqByteS: function 17 -/
def laws_eqByteS.l0 : Nat → List Int → List Int → Int → Option (Bool)
  | 0, _, _, _ => none
  | k + 1, x0, x1, x5 => if x5 < (x0.length : Int) then (if 0 ≤ x5 then (if x5 < (x1.length : Int) then (if (rd x0 x5) = (rd x1 x5) then (laws_eqByteS.l0 k x0 x1 (wrap64 (x5 + 1))) else (some false)) else (none)) else (none)) else (some true)
def laws_eqByteS.f (k : Nat) (l0 : List Int) (l1 : List Int) : Option (Bool) := if (l0.length : Int) = (l1.length : Int) then (laws_eqByteS.l0 k l0 l1 0) else (some false)
set_option maxRecDepth 100000 in
theorem laws_eqByteS.mono_l : ∀ k, (∀ y0 y1 y2, LeO (laws_eqByteS.l0 k y0 y1 y2) (laws_eqByteS.l0 (k + 1) y0 y1 y2))
  | 0 => fun _ _ _ r h => by simp [laws_eqByteS.l0] at h
  | k + 1 => by
    have ih0 := laws_eqByteS.mono_l k
    · intro y0 y1 y2
      unfold laws_eqByteS.l0
      repeat' first
      | (with_reducible exact ih0 _ _ _)
      | (with_reducible exact LeO.refl _)
      | (with_reducible exact LeO.none _)
      | (with_reducible refine LeO.ite ?_ ?_)
      | (with_reducible refine LeO.bind ?_ (fun _ => ?_))
      | exact ih0 _ _ _
      | exact LeO.none _
      | refine LeO.ite ?_ ?_
      | refine LeO.bind ?_ (fun _ => ?_)
set_option maxRecDepth 100000 in
theorem laws_eqByteS.mono : ∀ a0 a1 k, LeO (laws_eqByteS.f k a0 a1) (laws_eqByteS.f (k + 1) a0 a1) := by
  intro a0 a1 k
  have ih0 := laws_eqByteS.mono_l k
  unfold laws_eqByteS.f
  repeat' first
      | (with_reducible exact ih0 _ _ _)
      | (with_reducible exact LeO.refl _)
      | (with_reducible exact LeO.none _)
      | (with_reducible refine LeO.ite ?_ ?_)
      | (with_reducible refine LeO.bind ?_ (fun _ => ?_))
      | exact ih0 _ _ _
      | exact LeO.none _
      | refine LeO.ite ?_ ?_
      | refine LeO.bind ?_ (fun _ => ?_)
set_option maxHeartbeats 8000000 in
set_option maxRecDepth 100000 in
theorem laws_eqByteS.calls (k : Nat) (A0 : Option Addr) (c0 : Nat) (l0 : List Int) (A1 : Option Addr) (c1 : Nat) (l1 : List Int) (r : Bool) (w : World) (hr0 : Kd.C (Kd.int .u8) w A0 l0.length l0) (hc0 : l0.length ≤ c0) (hr1 : Kd.C (Kd.int .u8) w A1 l1.length l1) (hc1 : l1.length ≤ c1) (h : laws_eqByteS.f k l0 l1 = some r) :
    Calls Try.prog 17 #[.slice A0 l0.length c0, .slice A1 l1.length c1] w fun e w' => e = .returned (.bool r) ∧ Drawn0 w w' := by
  have HR0 := Aside0.mk hr0
  have HC0 := Aside0.mk hc0
  clear hr0 hc0
  have HR1 := Aside0.mk hr1
  have HC1 := Aside0.mk hc1
  clear hr1 hc1
  have H : (if (l0.length : Int) = (l1.length : Int) then (laws_eqByteS.l0 k l0 l1 0) else (some false)) = some r := h
  clear h
  by_cases c3 : (l0.length : Int) = (l1.length : Int)
  · rw [if_pos c3] at H
    have c3b0 : ((l0.length : Int) == (l1.length : Int)) = true := beq_iff_eq.mpr c3
    have c3b1 : ((l0.length : Int) != (l1.length : Int)) = false := bne_eq_false_iff_eq.mpr c3
    have c3b2 : (l0.length == l1.length) = true := by first | simpa using c3 | (simp at c3 ⊢; omega)
    clear c3
    have H' := Aside0.mk H
    clear H
    go_enter Try.func17, Try.ntmps17
    go_wp2
    repeat (go_quiet (fail); try go_wp2)
    go_loopg [5] k (fun kq v5 w' => ∃ (x5_1 : Int), v5 = .int .i64 x5_1 ∧ Aside0 (laws_eqByteS.l0 kq l0 l1 x5_1 = some r) ∧ Aside0 (kq ≤ k) ∧ Drawn0 w w')
    case atStart => exact ⟨(0), (by first | rfl | (simp; done) | (simp [*]; done)), H', ⟨Nat.le_refl _⟩, by repeat (first | exact Drawn0.refl _ | apply Drawn0.step)⟩
    case round =>
      clear H'
      try clear c1
      try clear p2
      try clear c3
      try clear c3b0
      try clear c3b1
      try clear c3b2
      obtain ⟨x5_1, rfl, HA, HK1, ⟨m1, rfl⟩⟩ := hrel
      cases gk with
      | zero => exact absurd HA.out (by simp [laws_eqByteS.l0])
      | succ k1 =>
        have H := HA.out
        clear HA
        simp only [laws_eqByteS.l0] at H
        by_cases c4 : x5_1 < (l0.length : Int)
        · rw [if_pos c4] at H
          have c4b0 : decide (x5_1 < (l0.length : Int)) = true := decide_eq_true c4
          clear c4
          by_cases c5 : 0 ≤ x5_1
          · rw [if_pos c5] at H
            have c5b0 : decide (0 ≤ x5_1) = true := decide_eq_true c5
            clear c5
            by_cases c6 : x5_1 < (l1.length : Int)
            · rw [if_pos c6] at H
              have c6b0 : decide (x5_1 < (l1.length : Int)) = true := decide_eq_true c6
              clear c6
              by_cases c7 : (rd l0 x5_1) = (rd l1 x5_1)
              · rw [if_pos c7] at H
                have c7b0 : ((rd l0 x5_1) == (rd l1 x5_1)) = true := beq_iff_eq.mpr c7
                have c7b1 : ((rd l0 x5_1) != (rd l1 x5_1)) = false := bne_eq_false_iff_eq.mpr c7
                clear c7
                have H' := Aside0.mk H
                clear H
                have p176 : 0 ≤ (x5_1 : Int) := of_decide_eq_true (by first | (with_reducible assumption) | assumption)
                have q176 : x5_1 < (l0.length : Int) := of_decide_eq_true (by first | (with_reducible assumption) | assumption)
                obtain ⟨ad176, e176, hx176_0⟩ := Kd.at_int HR0.out x5_1 p176 q176
                cases e176
                replace p176 := eq_true p176
                replace q176 := eq_true q176
                have p177 : 0 ≤ (x5_1 : Int) := of_decide_eq_true (by first | (with_reducible assumption) | assumption)
                have q177 : x5_1 < (l1.length : Int) := of_decide_eq_true (by first | (with_reducible assumption) | assumption)
                obtain ⟨ad177, e177, hx177_0⟩ := Kd.at_int HR1.out x5_1 p177 q177
                cases e177
                replace p177 := eq_true p177
                replace q177 := eq_true q177
                go_wp2
                repeat (go_quiet (fail); try go_wp2)
                go_roundg k1
                case measure => have := HK1.out; omega
                case rel => exact ⟨(wrap64 (x5_1 + 1)), (by first | rfl | (simp; done) | (simp [*]; done)), H', ⟨by have := HK1.out; omega⟩, by repeat (first | exact Drawn0.refl _ | apply Drawn0.step)⟩
              · rw [if_neg c7] at H
                have c7b0 : ((rd l0 x5_1) == (rd l1 x5_1)) = false := beq_eq_false_iff_ne.mpr c7
                have c7b1 : ((rd l0 x5_1) != (rd l1 x5_1)) = true := bne_iff_ne.mpr c7
                obtain rfl := Option.some.inj H
                have p176 : 0 ≤ (x5_1 : Int) := of_decide_eq_true (by first | (with_reducible assumption) | assumption)
                have q176 : x5_1 < (l0.length : Int) := of_decide_eq_true (by first | (with_reducible assumption) | assumption)
                obtain ⟨ad176, e176, hx176_0⟩ := Kd.at_int HR0.out x5_1 p176 q176
                cases e176
                replace p176 := eq_true p176
                replace q176 := eq_true q176
                have p177 : 0 ≤ (x5_1 : Int) := of_decide_eq_true (by first | (with_reducible assumption) | assumption)
                have q177 : x5_1 < (l1.length : Int) := of_decide_eq_true (by first | (with_reducible assumption) | assumption)
                obtain ⟨ad177, e177, hx177_0⟩ := Kd.at_int HR1.out x5_1 p177 q177
                cases e177
                replace p177 := eq_true p177
                replace q177 := eq_true q177
                go_wp2
                repeat (go_quiet (fail); try go_wp2)
                go_ret
                exact ⟨by first | rfl | (simp; done) | (simp [*]; done), by repeat (first | exact Drawn0.refl _ | apply Drawn0.step)⟩
            · rw [if_neg c6] at H
              exact absurd H (by simp)
          · rw [if_neg c5] at H
            exact absurd H (by simp)
        · rw [if_neg c4] at H
          have c4b0 : decide (x5_1 < (l0.length : Int)) = false := decide_eq_false c4
          clear c4
          obtain rfl := Option.some.inj H
          go_wp2
          repeat (go_quiet (fail); try go_wp2)
          go_ret
          exact ⟨by first | rfl | (simp; done) | (simp [*]; done), by repeat (first | exact Drawn0.refl _ | apply Drawn0.step)⟩
  · rw [if_neg c3] at H
    have c3b0 : ((l0.length : Int) == (l1.length : Int)) = false := beq_eq_false_iff_ne.mpr c3
    have c3b1 : ((l0.length : Int) != (l1.length : Int)) = true := bne_iff_ne.mpr c3
    have c3b2 : (l0.length == l1.length) = false := by first | simpa using c3 | (simp at c3 ⊢; omega)
    obtain rfl := Option.some.inj H
    go_enter Try.func17, Try.ntmps17
    go_wp2
    repeat (go_quiet (fail); try go_wp2)
    go_ret
    exact ⟨by first | rfl | (simp; done) | (simp [*]; done), by repeat (first | exact Drawn0.refl _ | apply Drawn0.step)⟩

end Go.Proofs.Ytlopmffdebhpfaa.G

/-! ## G18 -/
namespace Go.Proofs.Ytlopmffdebhpfaa.G
open Go.RowKit Go.Proofs.YtlopmffdebhpfaaW.PrintWords Go.Proofs.YtlopmffdebhpfaaW.PrintLast Go.Proofs.YtlopmffdebhpfaaW.PrintMore
attribute [local go_sem] max2_int min2_int max_two min_two max_three min_three max_four min_four
set_option linter.unusedVariables false
set_option linter.unusedSimpArgs false

/-! ### laws_markByteS: function 18 -/
def laws_markByteS.l0 : Nat → List Int → Int → Int → Option (Int × List Int)
  | 0, _, _, _ => none
  | k + 1, x0, x1, x5 => if x5 < (x0.length : Int) then (if 0 ≤ x5 then (laws_markByteS.l0 k (x0.set (x5 : Int).toNat ((x1) % 256)) (wrap64 (x1 + 1)) (wrap64 (x5 + 1))) else (none)) else (some (x1, x0))
def laws_markByteS.f (k : Nat) (l0 : List Int) (a1 : Int) : Option (Int × List Int) := laws_markByteS.l0 k l0 a1 0
set_option maxRecDepth 100000 in
theorem laws_markByteS.mono_l : ∀ k, (∀ y0 y1 y2, LeO (laws_markByteS.l0 k y0 y1 y2) (laws_markByteS.l0 (k + 1) y0 y1 y2))
  | 0 => fun _ _ _ r h => by simp [laws_markByteS.l0] at h
  | k + 1 => by
    have ih0 := laws_markByteS.mono_l k
    · intro y0 y1 y2
      unfold laws_markByteS.l0
      repeat' first
      | (with_reducible exact ih0 _ _ _)
      | (with_reducible exact LeO.refl _)
      | (with_reducible exact LeO.none _)
      | (with_reducible refine LeO.ite ?_ ?_)
      | (with_reducible refine LeO.bind ?_ (fun _ => ?_))
      | exact ih0 _ _ _
      | exact LeO.none _
      | refine LeO.ite ?_ ?_
      | refine LeO.bind ?_ (fun _ => ?_)
set_option maxRecDepth 100000 in
theorem laws_markByteS.mono : ∀ a0 a1 k, LeO (laws_markByteS.f k a0 a1) (laws_markByteS.f (k + 1) a0 a1) := by
  intro a0 a1 k
  have ih0 := laws_markByteS.mono_l k
  unfold laws_markByteS.f
  repeat' first
      | (with_reducible exact ih0 _ _ _)
      | (with_reducible exact LeO.refl _)
      | (with_reducible exact LeO.none _)
      | (with_reducible refine LeO.ite ?_ ?_)
      | (with_reducible refine LeO.bind ?_ (fun _ => ?_))
      | exact ih0 _ _ _
      | exact LeO.none _
      | refine LeO.ite ?_ ?_
      | refine LeO.bind ?_ (fun _ => ?_)
set_option maxHeartbeats 8000000 in
set_option maxRecDepth 100000 in
theorem laws_markByteS.calls (k : Nat) (P0_ : Nat → Prop) (u9000_ : Value) (l0 : List Int) (a1 : Int) (r1 : Int) (r2 : List Int) (w0 w : World) (hB : Below w0.heap.size w0 w) (ho0 : Kd.R (Kd.int .u8) 5 w w0.heap.size P0_ u9000_ l0) (h : laws_markByteS.f k l0 a1 = some (r1, r2)) :
    Calls Try.prog 18 #[u9000_, .int .i64 a1] w fun e w' => e = .returned (.int .i64 r1) ∧ Kd.R (Kd.int .u8) 5 w' w0.heap.size (fun k_ => (P0_ k_ ∨ w.heap.size ≤ k_)) u9000_ r2 ∧ Below w0.heap.size w0 w' ∧ Kept w w' (fun k_ => P0_ k_) := by
  have HO0 := Aside0.mk (show Kd.R (Kd.int .u8) 5 w w0.heap.size (fun k_ => (P0_ k_ ∨ w.heap.size ≤ k_)) u9000_ l0 from Kd.R_mono ho0 (fun k_ hk => (.inl hk)))
  have HK := Aside0.mk (Kept.refl w (fun k_ => P0_ k_))
  have HW0 := Aside0.mk hB.size
  have HB := Aside0.mk hB
  clear hB
  have H : (laws_markByteS.l0 k l0 a1 0) = some (r1, r2) := h
  clear h
  have H' := Aside0.mk H
  clear H
  go_enter Try.func18, Try.ntmps18
  go_wp2
  go_loopg [1, 5] k (fun kq v1 v5 w' => ∃ (x0_1 : List Int) (x1_1 : Int) (x5_1 : Int), v1 = .int .i64 x1_1 ∧ v5 = .int .i64 x5_1 ∧ Aside0 (laws_markByteS.l0 kq x0_1 x1_1 x5_1 = some (r1, r2)) ∧ Aside0 (kq ≤ k) ∧ Aside0 (Kd.R (Kd.int .u8) 5 w' w0.heap.size (fun k_ => (P0_ k_ ∨ w.heap.size ≤ k_)) u9000_ x0_1) ∧ Aside0 (Kept w w' (fun k_ => P0_ k_)) ∧ Aside0 (Below w0.heap.size w0 w'))
  case atStart => exact ⟨(l0), (a1), (0), (by first | rfl | (simp; done) | (simp [*]; done)), (by first | rfl | (simp; done) | (simp [*]; done)), H', ⟨Nat.le_refl _⟩, ⟨by (with_reducible repeat (first | apply Kd.R_alloc | apply Kd.R_drewN | apply Kd.R_drew)); exact HO0.out⟩, ⟨by repeat (first | (with_reducible first | exact HK.out | apply Kept.alloc | apply Kept.drewN | apply Kept.drew) | exact HK.out)⟩, ⟨by repeat (first | (with_reducible first | exact HB.out | apply below_alloc | apply pw_below_drewN | apply below_drew1) | exact HB.out)⟩⟩
  case round =>
    clear H'
    try clear c1
    try clear p2
    obtain ⟨x0_1, x1_1, x5_1, rfl, rfl, HA, HK1, HO_0, HK, HB⟩ := hrel
    cases gk with
    | zero => exact absurd HA.out (by simp [laws_markByteS.l0])
    | succ k1 =>
      have H := HA.out
      clear HA
      simp only [laws_markByteS.l0] at H
      by_cases c3 : x5_1 < (x0_1.length : Int)
      · rw [if_pos c3] at H
        have c3b0 : decide (x5_1 < (x0_1.length : Int)) = true := decide_eq_true c3
        clear c3
        by_cases c4 : 0 ≤ x5_1
        · rw [if_pos c4] at H
          have c4b0 : decide (0 ≤ x5_1) = true := decide_eq_true c4
          clear c4
          obtain ⟨y178, hy178⟩ : ∃ y_ : List Int, y_ = (x0_1.set (x5_1 : Int).toNat ((x1_1) % 256)) := ⟨_, rfl⟩
          replace H : (laws_markByteS.l0 k1 y178 (wrap64 (x1_1 + 1)) (wrap64 (x5_1 + 1))) = some (r1, r2) := by first | (rw [hy178]; with_reducible exact H) | (have H2_ := (Option.bind_some _ _).symm.trans H; rw [hy178]; with_reducible exact H2_) | (have H2_ := (Option.bind_some _ _).symm.trans H; with_reducible exact H2_) | with_reducible exact H | (rw [hy178]; exact H) | exact H
          have Ny178 := Aside0.mk hy178
          clear hy178
          have H' := Aside0.mk H
          clear H
          obtain ⟨Ao6, co6, eo6⟩ := Kd.R_slice HO_0.out
          subst eo6
          have p5 : 0 ≤ (x5_1 : Int) := of_decide_eq_true (by first | (with_reducible assumption) | assumption)
          have q5 : (x5_1 : Int) < ((x0_1.length : Int) : Int) := of_decide_eq_true (by first | (with_reducible assumption) | assumption)
          obtain ⟨go5, co5, eo5, gb5, gl5, cl5, HG5⟩ := Kd.R_form HO_0.out (by omega)
          (first | cases eo5 | (injection eo5 with ea_ en_ ec_; (first | subst ea_ | (injection ea_ with ea_; subst ea_)); subst ec_; clear en_))
          have GB5 := Aside0.mk gb5
          have GG5 := Aside0.mk HG5
          clear gb5 gl5 HG5
          have HMgo5 := Aside0.mk (show (P0_ go5 ∨ w.heap.size ≤ go5) from (HO_0.out.1 _ rfl))
          obtain ⟨hx5_0, hf5_0⟩ := Kd.R_celln 0 HO_0.out (x5_1 : Int) p5 q5
          replace p5 := eq_true p5
          replace q5 := eq_true q5
          have HP7 := Kd.R_putg HO_0.out (x5_1 : Int) ((x1_1) % 256)
          go_wp2_with (first | ((with_reducible refine gate_store (t := 5) (p := 16) rfl ?_); refine store_event (t := 5) (p := 16) (v := ?vo_w8) (w1 := (wr.setCell ⟨go5, (x5_1 : Int).toNat, none⟩ (.int .u8 ((x1_1) % 256)))) ?hg ?ho ?hn ?hr ?_; (case ho => rfl); (case hg => rfl); (case hn => rfl); (case hr => first | (go_simp; done) | (go_simp; rfl)); intro w8 hw; have hg : wr.grownBy w8 (some go5) := (by rw [hw]; exact HP7.2); have hp_ : Kd.R (Kd.int .u8) 5 w8 w0.heap.size (fun k_ => (P0_ k_ ∨ w.heap.size ≤ k_)) (.slice (some ⟨go5, 0, none⟩) x0_1.length co6) y178 := (by rw [hw, Ny178.out]; exact HP7.1); clear HP7; have n0_ := Aside0.mk (hp_); have n1_ := Aside0.mk ((by rw [hw]; exact below_set (HB.out) GB5.out : Below w0.heap.size w0 w8)); have n2_ := Aside0.mk (Kept.of_grown (S := (fun k_ => P0_ k_)) hg (by repeat (first | (with_reducible first | exact HK.out | apply Kept.alloc | apply Kept.drewN | apply Kept.drew) | exact HK.out)) (fun k_ e_ => (HO_0.out.1 k_ e_))); clear HO_0; clear HB; clear HK; have HO_0 := n0_; have HB := n1_; have HK := n2_; clear n0_ n1_ n2_; clear hg hw hp_))
          go_roundg k1
          case measure => have := HK1.out; omega
          case rel => exact ⟨(y178), (wrap64 (x1_1 + 1)), (wrap64 (x5_1 + 1)), (by first | rfl | (simp; done) | (simp [*]; done)), (by first | rfl | (simp; done) | (simp [*]; done)), H', ⟨by have := HK1.out; omega⟩, ⟨by (with_reducible repeat (first | apply Kd.R_alloc | apply Kd.R_drewN | apply Kd.R_drew)); exact HO_0.out⟩, ⟨by repeat (first | (with_reducible first | exact HK.out | apply Kept.alloc | apply Kept.drewN | apply Kept.drew) | exact HK.out)⟩, ⟨by repeat (first | (with_reducible first | exact HB.out | apply below_alloc | apply pw_below_drewN | apply below_drew1) | exact HB.out)⟩⟩
        · rw [if_neg c4] at H
          exact absurd H (by simp)
      · rw [if_neg c3] at H
        have c3b0 : decide (x5_1 < (x0_1.length : Int)) = false := decide_eq_false c3
        clear c3
        simp only [Option.some.injEq, Prod.mk.injEq] at H
        obtain ⟨rfl, rfl⟩ := H
        obtain ⟨Ao9, co9, eo9⟩ := Kd.R_slice HO_0.out
        subst eo9
        go_wp2
        go_ret
        exact ⟨by first | rfl | (simp [errW_none, errW_some] <;> rfl) | (simp [*, errW_none, errW_some] <;> rfl), by (with_reducible repeat (first | apply Kd.R_alloc | apply Kd.R_drewN | apply Kd.R_drew)); exact HO_0.out, by repeat (first | (with_reducible first | exact HB.out | apply below_alloc | apply pw_below_drewN | apply below_drew1) | exact HB.out), by repeat (first | (with_reducible first | exact HK.out | apply Kept.alloc | apply Kept.drewN | apply Kept.drew) | exact HK.out)⟩

end Go.Proofs.Ytlopmffdebhpfaa.G

/-! ## G19 -/
namespace Go.Proofs.Ytlopmffdebhpfaa.G
open Go.RowKit Go.Proofs.YtlopmffdebhpfaaW.PrintWords Go.Proofs.YtlopmffdebhpfaaW.PrintLast Go.Proofs.YtlopmffdebhpfaaW.PrintMore
attribute [local go_sem] max2_int min2_int max_two min_two max_three min_three max_four min_four
set_option linter.unusedVariables false
set_option linter.unusedSimpArgs false

/-! ### laws_heldByteS: function 19 -/
def laws_heldByteS.l0 : Nat → List Int → Int → Int → Option (Int)
  | 0, _, _, _ => none
  | k + 1, x0, x1, x5 => if x5 < (x0.length : Int) then (if 0 ≤ x5 then (if (rd x0 x5) = ((x1) % 256) then (laws_heldByteS.l0 k x0 (wrap64 (x1 + 1)) (wrap64 (x5 + 1))) else (some (-1))) else (none)) else (some x1)
def laws_heldByteS.f (k : Nat) (l0 : List Int) (a1 : Int) : Option (Int) := laws_heldByteS.l0 k l0 a1 0
set_option maxRecDepth 100000 in
theorem laws_heldByteS.mono_l : ∀ k, (∀ y0 y1 y2, LeO (laws_heldByteS.l0 k y0 y1 y2) (laws_heldByteS.l0 (k + 1) y0 y1 y2))
  | 0 => fun _ _ _ r h => by simp [laws_heldByteS.l0] at h
  | k + 1 => by
    have ih0 := laws_heldByteS.mono_l k
    · intro y0 y1 y2
      unfold laws_heldByteS.l0
      repeat' first
      | (with_reducible exact ih0 _ _ _)
      | (with_reducible exact LeO.refl _)
      | (with_reducible exact LeO.none _)
      | (with_reducible refine LeO.ite ?_ ?_)
      | (with_reducible refine LeO.bind ?_ (fun _ => ?_))
      | exact ih0 _ _ _
      | exact LeO.none _
      | refine LeO.ite ?_ ?_
      | refine LeO.bind ?_ (fun _ => ?_)
set_option maxRecDepth 100000 in
theorem laws_heldByteS.mono : ∀ a0 a1 k, LeO (laws_heldByteS.f k a0 a1) (laws_heldByteS.f (k + 1) a0 a1) := by
  intro a0 a1 k
  have ih0 := laws_heldByteS.mono_l k
  unfold laws_heldByteS.f
  repeat' first
      | (with_reducible exact ih0 _ _ _)
      | (with_reducible exact LeO.refl _)
      | (with_reducible exact LeO.none _)
      | (with_reducible refine LeO.ite ?_ ?_)
      | (with_reducible refine LeO.bind ?_ (fun _ => ?_))
      | exact ih0 _ _ _
      | exact LeO.none _
      | refine LeO.ite ?_ ?_
      | refine LeO.bind ?_ (fun _ => ?_)
set_option maxHeartbeats 8000000 in
set_option maxRecDepth 100000 in
theorem laws_heldByteS.calls (k : Nat) (A0 : Option Addr) (c0 : Nat) (l0 : List Int) (a1 : Int) (r : Int) (w : World) (hr0 : Kd.C (Kd.int .u8) w A0 l0.length l0) (hc0 : l0.length ≤ c0) (h : laws_heldByteS.f k l0 a1 = some r) :
    Calls Try.prog 19 #[.slice A0 l0.length c0, .int .i64 a1] w fun e w' => e = .returned (.int .i64 r) ∧ Drawn0 w w' := by
  have HR0 := Aside0.mk hr0
  have HC0 := Aside0.mk hc0
  clear hr0 hc0
  have H : (laws_heldByteS.l0 k l0 a1 0) = some r := h
  clear h
  have H' := Aside0.mk H
  clear H
  go_enter Try.func19, Try.ntmps19
  go_wp2
  go_loopg [1, 5] k (fun kq v1 v5 w' => ∃ (x1_1 : Int) (x5_1 : Int), v1 = .int .i64 x1_1 ∧ v5 = .int .i64 x5_1 ∧ Aside0 (laws_heldByteS.l0 kq l0 x1_1 x5_1 = some r) ∧ Aside0 (kq ≤ k) ∧ Drawn0 w w')
  case atStart => exact ⟨(a1), (0), (by first | rfl | (simp; done) | (simp [*]; done)), (by first | rfl | (simp; done) | (simp [*]; done)), H', ⟨Nat.le_refl _⟩, by repeat (first | exact Drawn0.refl _ | apply Drawn0.step)⟩
  case round =>
    clear H'
    try clear c1
    try clear p2
    obtain ⟨x1_1, x5_1, rfl, rfl, HA, HK1, ⟨m1, rfl⟩⟩ := hrel
    cases gk with
    | zero => exact absurd HA.out (by simp [laws_heldByteS.l0])
    | succ k1 =>
      have H := HA.out
      clear HA
      simp only [laws_heldByteS.l0] at H
      by_cases c3 : x5_1 < (l0.length : Int)
      · rw [if_pos c3] at H
        have c3b0 : decide (x5_1 < (l0.length : Int)) = true := decide_eq_true c3
        clear c3
        by_cases c4 : 0 ≤ x5_1
        · rw [if_pos c4] at H
          have c4b0 : decide (0 ≤ x5_1) = true := decide_eq_true c4
          clear c4
          by_cases c5 : (rd l0 x5_1) = ((x1_1) % 256)
          · rw [if_pos c5] at H
            have c5b0 : ((rd l0 x5_1) == ((x1_1) % 256)) = true := beq_iff_eq.mpr c5
            have c5b1 : ((rd l0 x5_1) != ((x1_1) % 256)) = false := bne_eq_false_iff_eq.mpr c5
            clear c5
            have H' := Aside0.mk H
            clear H
            have p179 : 0 ≤ (x5_1 : Int) := of_decide_eq_true (by first | (with_reducible assumption) | assumption)
            have q179 : x5_1 < (l0.length : Int) := of_decide_eq_true (by first | (with_reducible assumption) | assumption)
            obtain ⟨ad179, e179, hx179_0⟩ := Kd.at_int HR0.out x5_1 p179 q179
            cases e179
            replace p179 := eq_true p179
            replace q179 := eq_true q179
            go_wp2
            go_roundg k1
            case measure => have := HK1.out; omega
            case rel => exact ⟨(wrap64 (x1_1 + 1)), (wrap64 (x5_1 + 1)), (by first | rfl | (simp; done) | (simp [*]; done)), (by first | rfl | (simp; done) | (simp [*]; done)), H', ⟨by have := HK1.out; omega⟩, by repeat (first | exact Drawn0.refl _ | apply Drawn0.step)⟩
          · rw [if_neg c5] at H
            have c5b0 : ((rd l0 x5_1) == ((x1_1) % 256)) = false := beq_eq_false_iff_ne.mpr c5
            have c5b1 : ((rd l0 x5_1) != ((x1_1) % 256)) = true := bne_iff_ne.mpr c5
            obtain rfl := Option.some.inj H
            have p179 : 0 ≤ (x5_1 : Int) := of_decide_eq_true (by first | (with_reducible assumption) | assumption)
            have q179 : x5_1 < (l0.length : Int) := of_decide_eq_true (by first | (with_reducible assumption) | assumption)
            obtain ⟨ad179, e179, hx179_0⟩ := Kd.at_int HR0.out x5_1 p179 q179
            cases e179
            replace p179 := eq_true p179
            replace q179 := eq_true q179
            go_wp2
            go_ret
            exact ⟨by first | rfl | (simp; done) | (simp [*]; done), by repeat (first | exact Drawn0.refl _ | apply Drawn0.step)⟩
        · rw [if_neg c4] at H
          exact absurd H (by simp)
      · rw [if_neg c3] at H
        have c3b0 : decide (x5_1 < (l0.length : Int)) = false := decide_eq_false c3
        clear c3
        obtain rfl := Option.some.inj H
        go_wp2
        go_ret
        exact ⟨by first | rfl | (simp; done) | (simp [*]; done), by repeat (first | exact Drawn0.refl _ | apply Drawn0.step)⟩

end Go.Proofs.Ytlopmffdebhpfaa.G

/-! ## Dec -/
namespace Go.Proofs.Ytlopmffdebhpfaa.Pure
open Go.RowKit Go.Proofs.Ytlopmffdebhpfaa.G Go.Proofs.YtlopmffdebhpfaaW.PrintWords Go.Proofs.YtlopmffdebhpfaaW.PrintLast Go.Proofs.YtlopmffdebhpfaaW.PrintMore

theorem low2 {a b : Int} (ha : 0 ≤ a ∧ a < 256) (hb : 0 ≤ b ∧ b < 256) : Cv (fun k => spec_l2Low.f k [a, b]) (a + 256 * b) :=
  Cv.from (m := 3) (fun k => by
    unfold spec_l2Low.f
    rw [show wrap64 (((([a, b] : List Int).length : Nat) : Int) - 1) = 1 from by unfold wrap64; simp]
    rw [show k + 3 = k + 2 + 1 from rfl]
    unfold spec_l2Low.l0
    rw [if_pos (by decide), if_pos (by decide), if_pos (by simp), show rd [a, b] 1 = b from rfl, show wrap64 (1 - 1) = 0 from by unfold wrap64; omega]
    unfold spec_l2Low.l0
    rw [if_pos (by decide), if_pos (by decide), if_pos (by simp), show rd [a, b] 0 = a from rfl, show wrap64 (0 - 1) = -1 from by unfold wrap64; omega]
    unfold spec_l2Low.l0
    rw [if_neg (by decide)]
    rw [w64 (n := b) (by omega) (by omega), w64 (n := a) (by omega) (by omega), show wrap64 (0 * 256) = 0 from by unfold wrap64; omega, w64 (n := 0 + b) (by omega) (by omega), w64 (n := (0 + b) * 256) (by omega) (by omega), w64 (by omega) (by omega)]
    congr 1
    omega)
theorem or_i64 (a b : Nat) (ha : a < 2 ^ 32) (hb : b < 2 ^ 32) : Go.bits .or .i64 a b = ((a ||| b : Nat) : Int) :=
  (bits_nat .i64 32 (by decide) (fun n h0 h1 => by rw [IntKind.wrap_i64]; omega) a b ha hb).2
theorem num2 {a b : Int} (ha : 0 ≤ a ∧ a < 256) (hb : 0 ≤ b ∧ b < 256) : Cv (fun k => impl_numberAt.f k [a, b]) (a + 256 * b) :=
  Cv.from (m := 3) (fun k => by
    obtain ⟨x, rfl⟩ := Int.eq_ofNat_of_zero_le ha.1
    obtain ⟨y, rfl⟩ := Int.eq_ofNat_of_zero_le hb.1
    have hx : x < 256 := by omega
    have hy : y < 256 := by omega
    unfold impl_numberAt.f
    rw [show k + 3 = k + 2 + 1 from rfl]
    unfold impl_numberAt.l0
    rw [if_pos (by simp), if_pos (by decide), if_pos (by simp), if_pos (by unfold wrap64; omega), show rd [(x : Int), (y : Int)] 0 = (x : Int) from rfl, show wrap64 (0 + 1) = 1 from by unfold wrap64; omega, show wrap64 (8 * 0) = 0 from by unfold wrap64; omega]
    have e1 : shl .i64 (wrap64 (x : Int)) 0 = (x : Int) := by
      unfold shl
      rw [w64 (by omega) (by omega), IntKind.wrap_i64]
      simp only [Int.toNat_zero, Nat.zero_min, Int.pow_zero]
      omega
    have e2 : Go.bits .or .i64 0 (x : Int) = (x : Int) := by
      have := or_i64 0 x (by decide) (by omega)
      simpa using this
    rw [e1, e2]
    unfold impl_numberAt.l0
    rw [if_pos (by simp), if_pos (by decide), if_pos (by simp), if_pos (by unfold wrap64; omega), show rd [(x : Int), (y : Int)] 1 = (y : Int) from rfl, show wrap64 (1 + 1) = 2 from by unfold wrap64; omega, show wrap64 (8 * 1) = 8 from by unfold wrap64; omega]
    have e3 : shl .i64 (wrap64 (y : Int)) 8 = ((y * 256 : Nat) : Int) := by
      unfold shl
      rw [w64 (by omega) (by omega), IntKind.wrap_i64, show min ((8 : Int)).toNat IntKind.i64.bits = 8 from rfl, show ((2 : Int) ^ 8) = 256 from rfl]
      omega
    have e4 : Go.bits .or .i64 (x : Int) ((y * 256 : Nat) : Int) = ((x + 256 * y : Nat) : Int) := by
      rw [or_i64 x (y * 256) (by omega) (by omega), Nat.or_comm]
      have h := Nat.two_pow_add_eq_or_of_lt (i := 8) (b := x) (by omega) y
      rw [show 2 ^ 8 * y = y * 256 by omega] at h
      rw [← h]
      congr 1
      omega
    rw [e3, e4]
    unfold impl_numberAt.l0
    rw [if_neg (by simp)]
    congr 1
    )

theorem same_l0 (k : Nat) : ∀ (a b pa pb : List Int), pa.length = pb.length → a.length = b.length → (pa ++ a).length ≤ 9223372036854775806 →
    spec_l2Same.l0 (k + a.length + 1) (pa ++ a) (pb ++ b) (pa.length : Int) = some (decide (a = b))
  | [], [], pa, pb, hp, hl, hm => by
    unfold spec_l2Same.l0
    rw [if_neg (by simp)]
    simp
  | [], y :: b, pa, pb, hp, hl, hm => by simp at hl
  | x :: a, [], pa, pb, hp, hl, hm => by simp at hl
  | x :: a, y :: b, pa, pb, hp, hl, hm => by
    have h1 : (pa ++ x :: a).length = pa.length + a.length + 1 := by simp; omega
    have h2 : (pb ++ y :: b).length = pa.length + b.length + 1 := by simp; omega
    rw [show k + (x :: a).length + 1 = (k + a.length + 1) + 1 by simp; omega]
    conv => lhs; unfold spec_l2Same.l0
    rw [if_pos (by omega), if_pos (by omega), if_pos (by omega), rd_mid]
    have e : rd (pb ++ y :: b) (pa.length : Int) = y := by rw [hp]; exact rd_mid _ _ _
    rw [e]
    by_cases hxy : x = y
    · rw [if_pos hxy, w64 (by omega) (by omega)]
      have ih := same_l0 k a b (pa ++ [x]) (pb ++ [y]) (by simp [hp]) (by simpa using hl) (by simpa using hm)
      rw [List.append_assoc, List.append_assoc, List.singleton_append, List.singleton_append, show (((pa ++ [x]).length : Nat) : Int) = (pa.length : Int) + 1 by simp] at ih
      rw [ih]
      subst hxy
      simp
    · rw [if_neg hxy, decide_eq_false (by simp [hxy])]
theorem same {a b : List Int} (hm : a.length ≤ 9223372036854775806) : Cv (fun k => spec_l2Same.f k a b) (decide (a = b)) := by
  unfold spec_l2Same.f
  by_cases h : (a.length : Int) = (b.length : Int)
  · exact Cv.pos h (Cv.from (m := a.length + 1) (fun k => same_l0 k a b [] [] rfl (by omega) (by simpa using hm)))
  · refine Cv.neg h (Cv.of ?_)
    rw [decide_eq_false (fun e => h (by rw [e]))]
theorem eq_l0 (k : Nat) : ∀ (a b pa pb : List Int), pa.length = pb.length → a.length = b.length → (pa ++ a).length ≤ 9223372036854775806 →
    laws_eqByteS.l0 (k + a.length + 1) (pa ++ a) (pb ++ b) (pa.length : Int) = some (decide (a = b))
  | [], [], pa, pb, hp, hl, hm => by
    unfold laws_eqByteS.l0
    rw [if_neg (by simp)]
    simp
  | [], y :: b, pa, pb, hp, hl, hm => by simp at hl
  | x :: a, [], pa, pb, hp, hl, hm => by simp at hl
  | x :: a, y :: b, pa, pb, hp, hl, hm => by
    have h1 : (pa ++ x :: a).length = pa.length + a.length + 1 := by simp; omega
    have h2 : (pb ++ y :: b).length = pa.length + b.length + 1 := by simp; omega
    rw [show k + (x :: a).length + 1 = (k + a.length + 1) + 1 by simp; omega]
    conv => lhs; unfold laws_eqByteS.l0
    rw [if_pos (by omega), if_pos (by omega), if_pos (by omega), rd_mid]
    have e : rd (pb ++ y :: b) (pa.length : Int) = y := by rw [hp]; exact rd_mid _ _ _
    rw [e]
    by_cases hxy : x = y
    · rw [if_pos hxy, w64 (by omega) (by omega)]
      have ih := eq_l0 k a b (pa ++ [x]) (pb ++ [y]) (by simp [hp]) (by simpa using hl) (by simpa using hm)
      rw [List.append_assoc, List.append_assoc, List.singleton_append, List.singleton_append, show (((pa ++ [x]).length : Nat) : Int) = (pa.length : Int) + 1 by simp] at ih
      rw [ih]
      subst hxy
      simp
    · rw [if_neg hxy, decide_eq_false (by simp [hxy])]
theorem eqB {a b : List Int} (hm : a.length ≤ 9223372036854775806) : Cv (fun k => laws_eqByteS.f k a b) (decide (a = b)) := by
  unfold laws_eqByteS.f
  by_cases h : (a.length : Int) = (b.length : Int)
  · exact Cv.pos h (Cv.from (m := a.length + 1) (fun k => eq_l0 k a b [] [] rfl (by omega) (by simpa using hm)))
  · refine Cv.neg h (Cv.of ?_)
    rw [decide_eq_false (fun e => h (by rw [e]))]
theorem toB_l0 (k : Nat) : ∀ (r pre : List Int), (pre ++ r).length ≤ 9223372036854775806 →
    laws_toByteS.l0 (k + r.length + 1) (pre ++ r) (pre ++ List.replicate r.length 0) (pre.length : Int) = some (pre ++ r)
  | [], pre, hm => by
    unfold laws_toByteS.l0
    rw [if_neg (by simp)]
    simp
  | x :: r, pre, hm => by
    have h1 : (pre ++ x :: r).length = pre.length + r.length + 1 := by simp; omega
    have h2 : (pre ++ List.replicate (x :: r).length (0 : Int)).length = pre.length + r.length + 1 := by simp; omega
    rw [show k + (x :: r).length + 1 = (k + r.length + 1) + 1 by simp; omega]
    conv => lhs; unfold laws_toByteS.l0
    rw [if_pos (by omega), if_pos (by omega), if_pos (by omega), rd_mid, w64 (by omega) (by omega)]
    have e : (pre ++ List.replicate (x :: r).length (0 : Int)).set ((pre.length : Int)).toNat x = (pre ++ [x]) ++ List.replicate r.length 0 := by
      rw [Int.toNat_natCast, List.set_append_right _ _ (Nat.le_refl _), Nat.sub_self, List.length_cons, List.replicate_succ, List.set_cons_zero, List.append_assoc, List.singleton_append]
    rw [e]
    have ih := toB_l0 k r (pre ++ [x]) (by simpa using hm)
    rw [List.append_assoc, List.singleton_append, show (((pre ++ [x]).length : Nat) : Int) = (pre.length : Int) + 1 by simp] at ih
    rw [ih]
theorem toB {l : List Int} (hm : l.length ≤ 281474976710656) : Cv (fun k => laws_toByteS.f k l) l := by
  unfold laws_toByteS.f
  refine Cv.pos (by omega) (Cv.pos (by omega) (Cv.from (m := l.length + 1) (fun k => ?_)))
  have h := toB_l0 k l [] (by simp; omega)
  simpa [← Nat.add_assoc] using h
def marks : Nat → Int → List Int
  | 0, _ => []
  | n + 1, m => (m % 256) :: marks n (m + 1)
theorem marks_length : ∀ (n : Nat) (m : Int), (marks n m).length = n
  | 0, _ => rfl
  | n + 1, m => by simp [marks, marks_length n]
theorem mark_l0 (k : Nat) : ∀ (r pre : List Int) (m : Int), 0 ≤ m → m + r.length ≤ 9223372036854775806 → (pre ++ r).length ≤ 9223372036854775806 →
    laws_markByteS.l0 (k + r.length + 1) (pre ++ r) m (pre.length : Int) = some (m + r.length, pre ++ marks r.length m)
  | [], pre, m, h0, h1, hm => by
    unfold laws_markByteS.l0
    rw [if_neg (by simp)]
    simp [marks]
  | x :: r, pre, m, h0, h1, hm => by
    have h2 : (pre ++ x :: r).length = pre.length + r.length + 1 := by simp; omega
    have h3 : (x :: r).length = r.length + 1 := rfl
    rw [show k + (x :: r).length + 1 = (k + r.length + 1) + 1 by simp; omega]
    conv => lhs; unfold laws_markByteS.l0
    rw [if_pos (by omega), if_pos (by omega), w64 (n := m + 1) (by omega) (by omega), w64 (by omega) (by omega)]
    have e : (pre ++ x :: r).set ((pre.length : Int)).toNat (m % 256) = (pre ++ [m % 256]) ++ r := by
      rw [Int.toNat_natCast, List.set_append_right _ _ (Nat.le_refl _), Nat.sub_self, List.set_cons_zero, List.append_assoc, List.singleton_append]
    rw [e]
    have ih := mark_l0 k r (pre ++ [m % 256]) (m + 1) (by omega) (by omega) (by simpa using hm)
    rw [show (((pre ++ [m % 256]).length : Nat) : Int) = (pre.length : Int) + 1 by simp] at ih
    rw [ih, List.append_assoc, List.singleton_append]
    simp only [marks, List.length_cons]
    congr 2
    omega
theorem markB {l : List Int} (hm : l.length ≤ 281474976710656) : Cv (fun k => laws_markByteS.f k l 1) (1 + (l.length : Int), marks l.length 1) :=
  Cv.from (m := l.length + 1) (fun k => by
    have h := mark_l0 k l [] 1 (by omega) (by omega) (by simp; omega)
    unfold laws_markByteS.f
    exact h)
theorem held_l0 (k : Nat) : ∀ (n : Nat) (pre : List Int) (m : Int), 0 ≤ m → m + n ≤ 9223372036854775806 → pre.length + n ≤ 9223372036854775806 →
    laws_heldByteS.l0 (k + n + 1) (pre ++ marks n m) m (pre.length : Int) = some (m + n)
  | 0, pre, m, h0, h1, hm => by
    unfold laws_heldByteS.l0
    rw [if_neg (by simp [marks])]
    simp
  | n + 1, pre, m, h0, h1, hm => by
    have h2 : (pre ++ marks (n + 1) m).length = pre.length + n + 1 := by simp [marks_length]; omega
    rw [show k + (n + 1) + 1 = (k + n + 1) + 1 by omega]
    conv => lhs; unfold laws_heldByteS.l0
    have e : rd (pre ++ marks (n + 1) m) (pre.length : Int) = m % 256 := rd_mid pre _ _
    rw [if_pos (by omega), if_pos (by omega), e, if_pos rfl, w64 (n := m + 1) (by omega) (by omega), w64 (by omega) (by omega)]
    have ih := held_l0 k n (pre ++ [m % 256]) (m + 1) (by omega) (by omega) (by simp; omega)
    rw [show (((pre ++ [m % 256]).length : Nat) : Int) = (pre.length : Int) + 1 by simp, List.append_assoc, List.singleton_append] at ih
    rw [show marks (n + 1) m = (m % 256) :: marks n (m + 1) from rfl, ih]
    congr 1
    omega
theorem heldB {n : Nat} (hm : n ≤ 281474976710656) : Cv (fun k => laws_heldByteS.f k (marks n 1) 1) (1 + (n : Int)) :=
  Cv.from (m := n + 1) (fun k => by
    have h := held_l0 k n [] 1 (by omega) (by omega) (by simp; omega)
    unfold laws_heldByteS.f
    exact h)

theorem toList_loop (bs : ByteArray) : ∀ (n i : Nat) (r : List UInt8), i + n = bs.size → ByteArray.toList.loop bs i r = r.reverse ++ bs.data.toList.drop i
  | 0, i, r, h => by
    unfold ByteArray.toList.loop
    rw [if_neg (by omega), List.drop_eq_nil_of_le (by rw [Array.length_toList]; show bs.size ≤ i; omega), List.append_nil]
  | n + 1, i, r, h => by
    unfold ByteArray.toList.loop
    rw [if_pos (by omega), toList_loop bs n (i + 1) _ (by omega)]
    have hi : i < bs.data.toList.length := by rw [Array.length_toList]; show i < bs.size; omega
    rw [List.drop_eq_getElem_cons hi, List.reverse_cons, List.append_assoc, List.singleton_append]
    congr 2
    have hs : i < bs.data.size := by simpa using hi
    show bs.data[i]! = _
    rw [getElem!_pos bs.data i hs]
    simp
theorem toList_data (bs : ByteArray) : bs.toList = bs.data.toList := by
  unfold ByteArray.toList
  rw [toList_loop bs bs.size 0 [] (by omega)]
  simp
theorem str_eq {a b : List Int} (ha : By a) (hb : By b) : ((strOfNums a).toList == (strOfNums b).toList) = decide (a = b) := by
  rw [toList_data, toList_data, strOfNums_data, strOfNums_data]
  by_cases h : a = b
  · subst h
    simp
  · rw [decide_eq_false h]
    refine beq_eq_false_iff_ne.mpr (fun e => h (bytesOf_inj ha hb e))

/-! ### reading -/
def sizeOf2 (l : List Int) : Int := rd l 10 + 256 * rd l 11
def bodyOf (l : List Int) : List Int := (l.take (16 + sizeOf2 l).toNat).drop 16
/-- What DecodePage gives. -/
def decV (id : Int) (l : List Int) : Int × List Int × Bool :=
  if l.length = 256 ∧ sizeOf2 l ≤ 240 ∧ 0 ≤ id ∧ id ≤ 1023 ∧ 1 ≤ rd l 8 ∧ rd l 8 ≤ 4 ∧ pageOf id.toNat (rd l 8).toNat (bodyOf l) = l then (rd l 8, bodyOf l, true) else (0, [], false)
theorem decV_pos {id : Int} {l : List Int} (h : l.length = 256 ∧ sizeOf2 l ≤ 240 ∧ 0 ≤ id ∧ id ≤ 1023 ∧ 1 ≤ rd l 8 ∧ rd l 8 ≤ 4 ∧ pageOf id.toNat (rd l 8).toNat (bodyOf l) = l) : decV id l = (rd l 8, bodyOf l, true) := if_pos h
theorem decV_neg {id : Int} {l : List Int} (h : ¬ (l.length = 256 ∧ sizeOf2 l ≤ 240 ∧ 0 ≤ id ∧ id ≤ 1023 ∧ 1 ≤ rd l 8 ∧ rd l 8 ≤ 4 ∧ pageOf id.toNat (rd l 8).toNat (bodyOf l) = l)) : decV id l = (0, [], false) := if_neg h
theorem mid2 {l : List Int} (h : l.length = 256) : (l.take 12).drop 10 = [rd l 10, rd l 11] := by
  apply List.ext_getElem
  · simp [h]
  · intro i h1 h2
    have hi : i < 2 := by simpa using h2
    simp only [List.getElem_drop, List.getElem_take]
    rcases i with _ | _ | i
    · simp [rd, List.getD_eq_getElem?_getD, h]
    · simp [rd, List.getD_eq_getElem?_getD, h]
    · omega
theorem bodyOf_length {l : List Int} (h : l.length = 256) (h0 : 0 ≤ sizeOf2 l) (h1 : sizeOf2 l ≤ 240) : (((bodyOf l).length : Nat) : Int) = sizeOf2 l := by
  unfold bodyOf
  rw [List.length_drop, List.length_take, h]
  omega
theorem spec_dec {id : Int} {l : List Int} (hb : By l) : Cv (fun k => spec_DecodePage.f k id l) (decV id l) := by
  unfold spec_DecodePage.f
  refine Cv.bind (Cv.of rfl) ?_
  by_cases hl : (l.length : Int) = 256
  case neg =>
    rw [decV_neg (fun h => hl (by omega))]
    exact Cv.neg hl (Cv.of rfl)
  have hl' : l.length = 256 := by omega
  have b8 := By_rd hb 8
  have b10 := By_rd hb 10
  have b11 := By_rd hb 11
  refine Cv.pos hl (Cv.pos (by decide) (Cv.pos (by omega) ?_))
  rw [mid2 hl']
  refine Cv.bind (low2 b10 b11) ?_
  rw [show rd l 10 + 256 * rd l 11 = sizeOf2 l from rfl]
  have hs0 : 0 ≤ sizeOf2 l := by unfold sizeOf2; omega
  by_cases hs : sizeOf2 l > 240
  · rw [decV_neg (fun h => by omega)]
    exact Cv.pos hs (Cv.of rfl)
  refine Cv.neg hs (Cv.pos (by omega) ?_)
  rw [w64 (n := 16 + sizeOf2 l) (by omega) (by omega), w64 (n := rd l 8) (by omega) (by omega)]
  refine Cv.pos (by omega) (Cv.pos (by omega) ?_)
  rw [show (l.take (16 + sizeOf2 l).toNat).drop 16 = bodyOf l from rfl]
  have hbb : By (bodyOf l) := (hb.take _).drop _
  have hbl := bodyOf_length hl' hs0 (by omega)
  refine Cv.bind (spec_enc hbb) ?_
  unfold encV
  by_cases hok : okPage id (rd l 8) (bodyOf l).length
  · rw [if_pos hok]
    unfold okPage at hok
    refine Cv.pos rfl (Cv.bind (same (by rw [pageOf_length _ _ (by omega)]; decide)) ?_)
    by_cases he : pageOf id.toNat (rd l 8).toNat (bodyOf l) = l
    · rw [decV_pos ⟨hl', by omega, by omega, by omega, by omega, by omega, he⟩]
      refine Cv.pos (decide_eq_true he) (Cv.bind (v := bodyOf l) (Cv.of ?_) (Cv.of rfl))
      unfold spec_l1Bytes.f
      rw [Option.bind_some, if_pos (by simp; omega)]
      rfl
    · rw [decV_neg (fun h => he h.2.2.2.2.2.2)]
      exact Cv.neg (fun e => he (of_decide_eq_true e)) (Cv.of rfl)
  · rw [if_neg hok, decV_neg]
    · exact Cv.neg (by decide) (Cv.of rfl)
    · unfold okPage at hok
      intro h
      omega
theorem impl_dec {id : Int} {l : List Int} (hb : By l) : Cv (fun k => impl_DecodePage.f k id l) (decV id l) := by
  have b8 := By_rd hb 8
  have b10 := By_rd hb 10
  have b11 := By_rd hb 11
  have hs0 : 0 ≤ sizeOf2 l := by unfold sizeOf2; omega
  have key : Cv (fun k => impl_parsePage.f k id l) (if l.length = 256 then (if 0 ≤ id ∧ id ≤ 1023 ∧ 1 ≤ rd l 8 ∧ rd l 8 ≤ 4 ∧ sizeOf2 l ≤ 240 then (if pageOf id.toNat (rd l 8).toNat (bodyOf l) = l then (0, id, rd l 8, sizeOf2 l, bodyOf l) else (2, 0, 0, 0, [])) else (2, 0, 0, 0, [])) else (1, 0, 0, 0, [])) := by
    unfold impl_parsePage.f
    by_cases hl : l.length = 256
    case neg =>
      rw [if_neg hl]
      exact Cv.neg hl (Cv.of rfl)
    rw [if_pos hl]
    refine Cv.pos hl ?_
    rw [mid2 hl]
    refine Cv.bind (num2 b10 b11) ?_
    rw [show rd l 10 + 256 * rd l 11 = sizeOf2 l from rfl, w64 (n := rd l 8) (by omega) (by omega)]
    refine Cv.bind (Cv.of (valid_eq _ _ _)) ?_
    by_cases hok : 0 ≤ id ∧ id ≤ 1023 ∧ 1 ≤ rd l 8 ∧ rd l 8 ≤ 4 ∧ sizeOf2 l ≤ 240
    case neg =>
      rw [if_neg hok]
      exact Cv.neg (by rw [decide_eq_true_eq]; exact hok) (Cv.of rfl)
    rw [if_pos hok]
    refine Cv.pos (decide_eq_true hok) (Cv.pos (by omega) ?_)
    rw [show (l.take (16 + sizeOf2 l).toNat).drop 16 = bodyOf l from rfl]
    have hbb : By (bodyOf l) := (hb.take _).drop _
    have hbl := bodyOf_length hl hs0 (by omega)
    have hp : Cv (fun k => impl_page_bytes.f k id (rd l 8) (sizeOf2 l) (bodyOf l)) (pageOf id.toNat (rd l 8).toNat (bodyOf l)) := by
      have h := page_bytes (id := id.toNat) (kind := (rd l 8).toNat) (body := bodyOf l) (by omega) hbb (by omega)
      rw [Int.toNat_of_nonneg hok.1, Int.toNat_of_nonneg b8.1, hbl] at h
      exact h
    refine Cv.bind hp ?_
    refine Cv.bind (v := decide (pageOf id.toNat (rd l 8).toNat (bodyOf l) = l)) (Cv.of ?_) ?_
    · unfold bytes_Equal.f
      rw [str_eq (pageOf_by _ _ hbb) hb]
    · by_cases he : pageOf id.toNat (rd l 8).toNat (bodyOf l) = l
      · rw [if_pos he]
        exact Cv.pos (decide_eq_true he) (Cv.of rfl)
      · rw [if_neg he]
        exact Cv.neg (by rw [decide_eq_true_eq]; exact he) (Cv.of rfl)
  have hkey := key
  clear key
  unfold impl_DecodePage.f
  by_cases hl : l.length = 256
  case neg =>
    rw [if_neg hl] at hkey
    rw [decV_neg (fun h => hl h.1)]
    exact Cv.bind hkey (Cv.neg (by decide) (Cv.of rfl))
  rw [if_pos hl] at hkey
  by_cases hok : 0 ≤ id ∧ id ≤ 1023 ∧ 1 ≤ rd l 8 ∧ rd l 8 ≤ 4 ∧ sizeOf2 l ≤ 240
  case neg =>
    rw [if_neg hok] at hkey
    rw [decV_neg (fun h => hok ⟨h.2.2.1, h.2.2.2.1, h.2.2.2.2.1, h.2.2.2.2.2.1, h.2.1⟩)]
    exact Cv.bind hkey (Cv.neg (by decide) (Cv.of rfl))
  rw [if_pos hok] at hkey
  by_cases he : pageOf id.toNat (rd l 8).toNat (bodyOf l) = l
  · rw [if_pos he] at hkey
    rw [decV_pos ⟨hl, hok.2.2.2.2, hok.1, hok.2.1, hok.2.2.1, hok.2.2.2.1, he⟩]
    refine Cv.bind hkey (Cv.pos rfl (Cv.bind (v := bodyOf l) (Cv.of ?_) (Cv.of rfl)))
    have hbl := bodyOf_length hl hs0 (by omega)
    unfold bytes_Clone.f
    rw [if_pos (by show (bodyOf l).length ≤ _; omega)]
  · rw [if_neg he] at hkey
    rw [decV_neg (fun h => he h.2.2.2.2.2.2)]
    exact Cv.bind hkey (Cv.neg (by decide) (Cv.of rfl))
end Go.Proofs.Ytlopmffdebhpfaa.Pure

/-! ## Flip -/
namespace Go.Proofs.Ytlopmffdebhpfaa.Pure
open Go.RowKit Go.Proofs.Ytlopmffdebhpfaa.G Go.Proofs.YtlopmffdebhpfaaW.PrintWords Go.Proofs.YtlopmffdebhpfaaW.PrintLast Go.Proofs.YtlopmffdebhpfaaW.PrintMore

theorem xor_cancel {a b p : Nat} (h : a ^^^ p = b ^^^ p) : a = b := by
  have h1 := congrArg (· ^^^ p) h
  simpa [Nat.xor_assoc] using h1
theorem high_xor {x : Nat} (h : x < 2 ^ 31) : 2 ^ 31 ≤ x ^^^ 3988292384 := by
  rcases Nat.lt_or_ge (x ^^^ 3988292384) (2 ^ 31) with h1 | h1
  · have h2 : (x ^^^ 3988292384).testBit 31 = false := Nat.testBit_lt_two_pow h1
    rw [Nat.testBit_xor, Nat.testBit_lt_two_pow h] at h2
    exact absurd h2 (by decide)
  · exact h1
theorem cstep_inj {a b : Nat} (ha : a < 2 ^ 32) (hb : b < 2 ^ 32) (h : cstep a = cstep b) : a = b := by
  unfold cstep at h
  by_cases h1 : a % 2 = 1 <;> by_cases h2 : b % 2 = 1
  · rw [if_pos h1, if_pos h2] at h
    have := xor_cancel h
    omega
  · rw [if_pos h1, if_neg h2] at h
    have := high_xor (x := a / 2) (by omega)
    omega
  · rw [if_neg h1, if_pos h2] at h
    have := high_xor (x := b / 2) (by omega)
    omega
  · rw [if_neg h1, if_neg h2] at h
    omega
theorem cstepN_inj : ∀ (n : Nat) {a b : Nat}, a < 2 ^ 32 → b < 2 ^ 32 → cstepN n a = cstepN n b → a = b
  | 0, _, _, _, _, h => h
  | n + 1, _, _, ha, hb, h => cstep_inj ha hb (cstepN_inj n (cstep_lt ha) (cstep_lt hb) h)
theorem cfold_inj : ∀ (l : List Int) {a b : Nat}, By l → a < 2 ^ 32 → b < 2 ^ 32 → cfold a l = cfold b l → a = b
  | [], _, _, _, _, _, h => h
  | c :: r, a, b, hl, ha, hb, h => by
    have hc := hl c List.mem_cons_self
    have h1 := cfold_inj r (fun x hx => hl x (List.mem_cons_of_mem _ hx)) (cbyte_lt ha (by omega)) (cbyte_lt hb (by omega)) h
    exact xor_cancel (cstepN_inj 8 (Nat.xor_lt_two_pow ha (by omega)) (Nat.xor_lt_two_pow hb (by omega)) h1)
theorem cfold_append : ∀ (a b : List Int) (h : Nat), cfold h (a ++ b) = cfold (cfold h a) b
  | [], _, _ => rfl
  | _ :: a, b, _ => cfold_append a b _
theorem crc_change {pre r : List Int} {c c' : Int} (hp : By pre) (hr : By r) (hc : 0 ≤ c ∧ c < 256) (hc' : 0 ≤ c' ∧ c' < 256) (h : crc (pre ++ c :: r) = crc (pre ++ c' :: r)) : c = c' := by
  unfold crc at h
  have h1 := xor_cancel h
  rw [cfold_append, cfold_append] at h1
  have hq : cfold 4294967295 pre < 2 ^ 32 := cfold_lt pre hp (by decide)
  have h2 : cbyte (cfold 4294967295 pre) c.toNat = cbyte (cfold 4294967295 pre) c'.toNat := cfold_inj r hr (cbyte_lt hq (by omega)) (cbyte_lt hq (by omega)) h1
  have h3 := cstepN_inj 8 (Nat.xor_lt_two_pow hq (by omega)) (Nat.xor_lt_two_pow hq (by omega)) h2
  rw [Nat.xor_comm, Nat.xor_comm (cfold 4294967295 pre)] at h3
  have := xor_cancel h3
  omega
theorem leN4_inj {a b : Nat} (ha : a < 2 ^ 32) (hb : b < 2 ^ 32) (h : leN 4 a = leN 4 b) : a = b := by
  simp only [leN, List.cons.injEq, and_true] at h
  omega
theorem split_at {l : List Int} {n : Nat} (h : n < l.length) : l = l.take n ++ l[n] :: l.drop (n + 1) := by
  rw [List.getElem_cons_drop, List.take_append_drop]
/-- One byte of a page changed: no page. -/
theorem flip {id : Int} {i q : Nat} {body : List Int} (hb : By body) (hl : body.length ≤ 240) {n : Nat} (hn : n < 256) {c' : Int} (hc' : 0 ≤ c' ∧ c' < 256) (hne : c' ≠ rd (pageOf i q body) (n : Int)) : decV id ((pageOf i q body).set n c') = (0, [], false) := by
  refine decV_neg (fun h => ?_)
  obtain ⟨hlen, hs, _, _, _, _, he⟩ := h
  have hR := restOf_by i q hb
  have hRl := restOf_length i q hl
  have hA : (leN 4 (crc (restOf i q body))).length = 4 := leN_length _ _
  unfold pageOf at hne he
  generalize hg : crc (restOf i q body) = g at *
  rcases Nat.lt_or_ge n 4 with h4 | h4
  · rw [List.set_append_left _ _ (by omega)] at he
    obtain ⟨e1, e2⟩ := List.append_inj he (by rw [leN_length, List.length_set, hA])
    rw [e2, hg] at e1
    refine hne ?_
    have h5 : n < ((leN 4 g).set n c').length := by rw [List.length_set]; omega
    have h6 : ((leN 4 g).set n c')[n] = c' := List.getElem_set_self h5
    have h7 : ((leN 4 g).set n c')[n] = (leN 4 g)[n] := by congr 1; exact e1.symm
    rw [← h6, h7]
    unfold rd
    rw [Int.toNat_natCast, List.getD_eq_getElem?_getD, List.getElem?_append_left (by omega), List.getElem?_eq_getElem (by omega)]
    rfl
  · rw [List.set_append_right _ _ (by omega), hA] at he
    obtain ⟨e1, e2⟩ := List.append_inj he (by rw [leN_length, hA])
    rw [e2] at e1
    have hm : n - 4 < (restOf i q body).length := by omega
    have hsp := split_at hm
    have hset : (restOf i q body).set (n - 4) c' = (restOf i q body).take (n - 4) ++ c' :: (restOf i q body).drop (n - 4 + 1) := by
      rw [List.set_eq_take_append_cons_drop, if_pos hm]
    have hby2 : By ((restOf i q body).set (n - 4) c') := by
      rw [hset]
      exact (hR.take _).append (By.cons hc' (hR.drop _))
    have e3 := leN4_inj (crc_lt hby2) (by rw [← hg]; exact crc_lt hR) e1
    rw [← hg, hset] at e3
    have e4 : crc ((restOf i q body).take (n - 4) ++ c' :: (restOf i q body).drop (n - 4 + 1)) = crc ((restOf i q body).take (n - 4) ++ (restOf i q body)[n - 4] :: (restOf i q body).drop (n - 4 + 1)) := by
      rw [← hsp]
      exact e3
    have e5 := crc_change (hR.take _) (hR.drop _) hc' (hR _ (List.getElem_mem hm)) e4
    refine hne (e5.trans ?_)
    unfold rd
    rw [Int.toNat_natCast, List.getD_eq_getElem?_getD, List.getElem?_append_right (by omega), hA, List.getElem?_eq_getElem hm]
    rfl
/-- A page that was written is read back. -/
theorem roundtrip {id kind : Int} {body : List Int} (hok : okPage id kind body.length) : decV id (pageOf id.toNat kind.toNat body) = (kind, body, true) := by
  unfold okPage at hok
  have e8 : rd (pageOf id.toNat kind.toNat body) 8 = kind := by
    simp only [pageOf, restOf, leN, rd, List.cons_append, List.nil_append]
    simp
    omega
  have es : sizeOf2 (pageOf id.toNat kind.toNat body) = (body.length : Int) := by
    simp only [sizeOf2, pageOf, restOf, leN, rd, List.cons_append, List.nil_append]
    simp
    omega
  have eb : bodyOf (pageOf id.toNat kind.toNat body) = body := by
    unfold bodyOf
    rw [es, show (16 + (body.length : Int)).toNat = body.length + 16 by omega]
    simp only [pageOf, restOf, leN, List.cons_append, List.nil_append, List.take_succ_cons, List.drop_succ_cons, List.drop_zero]
    rw [List.take_left']
    rfl
  rw [decV_pos ⟨pageOf_length _ _ (by omega), by rw [es]; omega, hok.1, hok.2.1, by rw [e8]; omega, by rw [e8]; omega, by rw [e8, eb]⟩, e8, eb]
end Go.Proofs.Ytlopmffdebhpfaa.Pure

/-! ## PureFnPage -/
namespace Go.Proofs.Ytlopmffdebhpfaa.Pure
open Go.RowKit Go.Proofs.Ytlopmffdebhpfaa.G Go.Proofs.YtlopmffdebhpfaaW.PrintWords Go.Proofs.YtlopmffdebhpfaaW.PrintLast Go.Proofs.YtlopmffdebhpfaaW.PrintMore

/-- What is still to be drawn from. -/
def Rdr (s : List Int) (p : Int) : Prop := By s ∧ s.length ≤ 1000 ∧ 0 ≤ p ∧ p ≤ s.length
theorem next_ok {s : List Int} {p : Int} (h : Rdr s p) : ∃ x p', spec_l1Rd_next.f s p = some (x, p') ∧ 0 ≤ x ∧ x < 256 ∧ Rdr s p' := by
  obtain ⟨hb, hl, h0, h1⟩ := h
  unfold spec_l1Rd_next.f
  by_cases hp : p < (s.length : Int)
  · have := By_rd hb p
    refine ⟨rd s p, p + 1, ?_, this.1, this.2, hb, hl, by omega, by omega⟩
    rw [if_pos hp, if_pos h0, w64 (by omega) (by omega), w64 (by omega) (by omega)]
  · exact ⟨0, p, by rw [if_neg hp], by omega, by omega, hb, hl, h0, h1⟩
theorem open_ok {l : List Int} (hb : By l) : ∃ s p, spec_l1Open.f l = some (s, p) ∧ Rdr s p := by
  unfold spec_l1Open.f
  by_cases h : (l.length : Int) > 1000
  · exact ⟨l.take 1000, 0, by rw [if_pos h, if_pos (by omega)], hb.take _, by simp; omega, by omega, by omega⟩
  · exact ⟨l, 0, by rw [if_neg h], hb, by omega, by omega, by omega⟩
theorem id_ok {s : List Int} {p : Int} (h : Rdr s p) : ∃ x p', spec_l2Id.f s p = some (x, p') ∧ Rdr s p' := by
  obtain ⟨x, p', e, h0, h1, h2⟩ := next_ok h
  unfold spec_l2Id.f
  rw [e, Option.bind_some]
  obtain ⟨n, rfl⟩ := Int.eq_ofNat_of_zero_le h0
  by_cases hx : (n : Int) ≥ 240
  · refine ⟨rd ([(-1), 1023, 1024] : List Int) ((n % 3 : Nat) : Int), p', ?_, h2⟩
    dsimp only
    rw [if_pos hx, Option.bind_some, show Int.tmod (n : Int) 3 = ((n % 3 : Nat) : Int) from rfl, if_pos (by omega), if_pos (by simp; omega)]
  · exact ⟨_, p', by rw [if_neg hx], h2⟩
theorem body_l0 (x3 : Int) (h3 : 0 ≤ x3 ∧ x3 < 256) : ∀ (m : Nat) (acc : List Int) (i : Int) (s : List Int) (p : Int), Rdr s p → By acc → 0 ≤ i → i + m = Int.tmod x3 9 → acc.length = i.toNat →
    ∃ b p', (∀ k, spec_l2Body.l0 (k + m + 1) x3 acc i s p = some (b, p')) ∧ By b ∧ b.length ≤ 241 ∧ Rdr s p'
  | 0, acc, i, s, p, hr, hb, h0, hi, hl => by
    obtain ⟨n, rfl⟩ := Int.eq_ofNat_of_zero_le h3.1
    have e9 : Int.tmod (n : Int) 9 = ((n % 9 : Nat) : Int) := rfl
    have e3 : Int.tmod (n : Int) 3 = ((n % 3 : Nat) : Int) := rfl
    by_cases hx : (n : Int) ≥ 240
    · refine ⟨List.replicate (239 + n % 3) 0, p, fun k => ?_, By.zeros _, by simp; omega, hr⟩
      unfold spec_l2Body.l0
      rw [if_neg (by omega), if_pos hx, e3, w64 (by omega) (by omega), if_pos (by omega), if_pos (by omega), show (239 + ((n % 3 : Nat) : Int)).toNat = 239 + n % 3 by omega]
    · refine ⟨acc, p, fun k => ?_, hb, by omega, hr⟩
      unfold spec_l2Body.l0
      rw [if_neg (by omega), if_neg hx]
  | m + 1, acc, i, s, p, hr, hb, h0, hi, hl => by
    obtain ⟨x, p', e, hx0, hx1, hr'⟩ := next_ok hr
    have ht : Int.tmod x3 9 ≤ 8 := by
      obtain ⟨n, rfl⟩ := Int.eq_ofNat_of_zero_le h3.1
      rw [show Int.tmod (n : Int) 9 = ((n % 9 : Nat) : Int) from rfl]
      omega
    obtain ⟨b, q, hk, h4, h5, h6⟩ := body_l0 x3 h3 m (acc ++ [x % 256]) (i + 1) s p' hr' (hb.append (By.cons ⟨by omega, by omega⟩ By.nil)) (by omega) (by omega) (by simp; omega)
    refine ⟨b, q, fun k => ?_, h4, h5, h6⟩
    rw [show k + (m + 1) + 1 = (k + m + 1) + 1 by omega]
    conv => lhs; unfold spec_l2Body.l0
    rw [if_pos (by omega), e, Option.bind_some, if_pos (by omega), w64 (by omega) (by omega)]
    exact hk k
theorem body_ok {s : List Int} {p : Int} (h : Rdr s p) : ∃ b p', Cv (fun k => spec_l2Body.f k s p) (b, p') ∧ By b ∧ b.length ≤ 241 ∧ Rdr s p' := by
  obtain ⟨x, p', e, h0, h1, h2⟩ := next_ok h
  have ht : 0 ≤ Int.tmod x 9 := by
    obtain ⟨n, rfl⟩ := Int.eq_ofNat_of_zero_le h0
    rw [show Int.tmod (n : Int) 9 = ((n % 9 : Nat) : Int) from rfl]
    omega
  obtain ⟨b, q, hk, h4, h5, h6⟩ := body_l0 x ⟨h0, h1⟩ (Int.tmod x 9).toNat [] 0 s p' h2 By.nil (by omega) (by omega) rfl
  refine ⟨b, q, ?_, h4, h5, h6⟩
  unfold spec_l2Body.f
  exact Cv.bind (Cv.of e) (Cv.from (m := (Int.tmod x 9).toNat + 1) (fun k => by have := hk k; rw [← Nat.add_assoc]; exact this))
theorem drawEnc {l : List Int} (hb : By l) : ∃ id kind body, Cv (fun k => spec_DrawEncodePage.f k l) (id, kind, body) ∧ By body := by
  obtain ⟨s, p, e1, r1⟩ := open_ok hb
  obtain ⟨x, p2, e2, hx0, hx1, r2⟩ := next_ok r1
  obtain ⟨id, p3, e3, r3⟩ := id_ok r2
  obtain ⟨b, p4, e4, hbb, _, _⟩ := body_ok r3
  unfold spec_DrawEncodePage.f
  by_cases hx : x ≥ 240
  · exact ⟨id, _, b, Cv.bind (Cv.of e1) (Cv.bind (Cv.of e2) (Cv.bind (Cv.of e3) (Cv.pos hx (Cv.bind e4 (Cv.of rfl))))), hbb⟩
  · exact ⟨id, _, b, Cv.bind (Cv.of e1) (Cv.bind (Cv.of e2) (Cv.bind (Cv.of e3) (Cv.neg hx (Cv.bind e4 (Cv.of rfl))))), hbb⟩
theorem encV_by {id kind : Int} {body : List Int} (hb : By body) : By (encV id kind body).1 ∧ (encV id kind body).1.length ≤ 256 := by
  unfold encV
  split
  · rename_i h
    unfold okPage at h
    exact ⟨pageOf_by _ _ hb, by rw [pageOf_length _ _ (by omega)]; decide⟩
  · exact ⟨By.nil, by simp⟩
theorem set_by {l : List Int} (hb : By l) (n : Nat) {x : Int} (hx : 0 ≤ x ∧ x < 256) : By (l.set n x) := by
  intro y hy
  rcases List.mem_or_eq_of_mem_set hy with h | h
  · exact hb y h
  · rw [h]; exact hx
theorem draw_j1 (x5 x6 : Int) {x7 : List Int} (hb : By x7) (hl : x7.length ≤ 256) : ∃ id l, Cv (fun k => spec_DrawDecodePage.j1 k x5 x6 x7) (id, l) ∧ By l := by
  have h0 : By (x7 ++ [0]) := hb.append (By.zeros 1)
  by_cases h1 : Int.tmod x5 16 = 2 <;> by_cases h2 : Int.tmod x5 32 = 1
  · exact ⟨_, _, Cv.from (m := 1) (fun k => by unfold spec_DrawDecodePage.j1; dsimp only; rw [if_pos h1, if_pos h2, if_pos (by omega)]), h0⟩
  · exact ⟨_, _, Cv.from (m := 1) (fun k => by unfold spec_DrawDecodePage.j1; dsimp only; rw [if_pos h1, if_neg h2]), hb⟩
  · exact ⟨_, _, Cv.from (m := 1) (fun k => by unfold spec_DrawDecodePage.j1; dsimp only; rw [if_neg h1, if_pos h2, if_pos (by omega)]), h0⟩
  · exact ⟨_, _, Cv.from (m := 1) (fun k => by unfold spec_DrawDecodePage.j1; dsimp only; rw [if_neg h1, if_neg h2]), hb⟩
theorem draw_j0 (x5 x6 : Int) {x7 : List Int} {x9 : Int} (c : Bool) (hb : By x7) (hl : x7.length ≤ 256) (h9 : 0 ≤ x9) (hc : c = true → 0 < x7.length) : ∃ id l, Cv (fun k => spec_DrawDecodePage.j0 k x5 x6 x7 x9 c) (id, l) ∧ By l := by
  cases c with
  | false =>
    obtain ⟨id, l, h, hy⟩ := draw_j1 x5 x6 hb hl
    refine ⟨id, l, Cv.succ h (fun k => ?_), hy⟩
    conv => lhs; unfold spec_DrawDecodePage.j0
    dsimp only
    rw [if_neg (by decide)]
  | true =>
    have hp := hc rfl
    obtain ⟨n, rfl⟩ := Int.eq_ofNat_of_zero_le h9
    have ht : Int.tmod (n : Int) (x7.length : Int) = ((n % x7.length : Nat) : Int) := rfl
    have hm := Nat.mod_lt n hp
    obtain ⟨id, l, h, hy⟩ := draw_j1 x5 x6 (set_by hb ((Int.tmod (n : Int) (x7.length : Int))).toNat (x := Go.bits .xor .u8 (rd x7 (Int.tmod (n : Int) (x7.length : Int))) ((wrap64 (1 + (Int.tmod (wrap64 (Int.tdiv (n : Int) 256)) 128))) % 256)) ⟨bits_lo_u8 _ _ _, by have := bits_hi_u8 .xor (rd x7 (Int.tmod (n : Int) (x7.length : Int))) ((wrap64 (1 + (Int.tmod (wrap64 (Int.tdiv (n : Int) 256)) 128))) % 256); omega⟩) (by rw [List.length_set]; exact hl)
    refine ⟨id, l, Cv.succ h (fun k => ?_), hy⟩
    conv => lhs; unfold spec_DrawDecodePage.j0
    dsimp only
    rw [if_pos rfl, if_neg (by omega), if_pos (by rw [ht]; omega), if_pos (by rw [ht]; omega)]
theorem drawDec {l : List Int} (hb : By l) : ∃ id l', Cv (fun k => spec_DrawDecodePage.f k l) (id, l') ∧ By l' := by
  obtain ⟨s, p, e1, r1⟩ := open_ok hb
  obtain ⟨x, p2, e2, hx0, hx1, r2⟩ := next_ok r1
  obtain ⟨id, p3, e3, r3⟩ := id_ok r2
  obtain ⟨b, p4, e4, hbb, _, r4⟩ := body_ok r3
  obtain ⟨y, p5, e5, hy0, hy1, r5⟩ := next_ok r4
  obtain ⟨z, p6, e6, hz0, hz1, r6⟩ := next_ok r5
  have he := encV_by (id := id) (kind := wrap64 (1 + (Int.tmod x 4))) hbb
  have h9 : 0 ≤ wrap64 ((wrap64 (y * 256)) + z) := by rw [w64 (n := y * 256) (by omega) (by omega), w64 (by omega) (by omega)]; omega
  unfold spec_DrawDecodePage.f
  by_cases h3 : Int.tmod x 4 = 3
  · obtain ⟨i, m, h, hm⟩ := draw_j0 x id (decide (((encV id (wrap64 (1 + (Int.tmod x 4))) b).1.length : Int) > 0)) he.1 he.2 h9 (fun h => by have := of_decide_eq_true h; omega)
    exact ⟨i, m, Cv.bind (Cv.of e1) (Cv.bind (Cv.of e2) (Cv.bind (Cv.of e3) (Cv.bind e4 (Cv.bind (spec_enc hbb) (Cv.bind (Cv.of e5) (Cv.bind (Cv.of e6) (Cv.pos h3 h))))))), hm⟩
  · obtain ⟨i, m, h, hm⟩ := draw_j0 x id false he.1 he.2 h9 (fun h => by cases h)
    exact ⟨i, m, Cv.bind (Cv.of e1) (Cv.bind (Cv.of e2) (Cv.bind (Cv.of e3) (Cv.bind e4 (Cv.bind (spec_enc hbb) (Cv.bind (Cv.of e5) (Cv.bind (Cv.of e6) (Cv.neg h3 h))))))), hm⟩
theorem decV_by {id : Int} {l : List Int} (hb : By l) : By (decV id l).2.1 := by
  unfold decV
  split
  · exact (hb.take _).drop _
  · exact By.nil
/-- The law's end: both read what is drawn alike. -/
theorem tail_ok {l : List Int} (hb : By l) : Cv (fun k => (spec_DrawDecodePage.f k l).bind fun bt320 => ((spec_DecodePage.f k bt320.1 bt320.2).bind fun bt324 => ((impl_DecodePage.f k bt320.1 bt320.2).bind fun bt329 => (if (bt329.2.2 == bt324.2.2) = true then (if bt329.1 = bt324.1 then (some ((strOfNums bt329.2.1).toList == (strOfNums bt324.2.1).toList)) else (some false)) else (some false))))) true := by
  obtain ⟨i, m, h, hm⟩ := drawDec hb
  refine Cv.bind h (Cv.bind (spec_dec hm) (Cv.bind (impl_dec hm) (Cv.pos (by simp) (Cv.pos rfl (Cv.of ?_)))))
  simp
theorem bit_flip {c b : Int} (hc : 0 ≤ c ∧ c < 256) (hb : 0 ≤ b ∧ b < 8) : Go.bits .xor .u8 c (shl .u8 1 b) ≠ c := by
  obtain ⟨x, rfl⟩ := Int.eq_ofNat_of_zero_le hc.1
  have hs : ∃ n : Nat, shl .u8 1 b = (n : Int) ∧ n < 2 ^ 8 ∧ n ≠ 0 := by
    obtain ⟨t, rfl⟩ := Int.eq_ofNat_of_zero_le hb.1
    have ht : t < 8 := by omega
    rcases t with _ | _ | _ | _ | _ | _ | _ | _ | t
    · exact ⟨1, rfl, by decide, by decide⟩
    · exact ⟨2, rfl, by decide, by decide⟩
    · exact ⟨4, rfl, by decide, by decide⟩
    · exact ⟨8, rfl, by decide, by decide⟩
    · exact ⟨16, rfl, by decide, by decide⟩
    · exact ⟨32, rfl, by decide, by decide⟩
    · exact ⟨64, rfl, by decide, by decide⟩
    · exact ⟨128, rfl, by decide, by decide⟩
    · omega
  obtain ⟨n, e, hn, hz⟩ := hs
  rw [e, xor_u8 x n (by omega) hn]
  intro h
  have h1 : x ^^^ n = x := by omega
  have h2 : n ^^^ x = 0 ^^^ x := by rw [Nat.xor_comm, h1, Nat.zero_xor]
  exact hz (xor_cancel h2)
/-- The law's middle: a page with one bit changed is none. -/
theorem j0_ok {l0 : List Int} {id : Int} {pg : List Int} (hl : l0.length ≤ 1048576) (hp : pg.length = 256) (hb : By l0)
    (hf : ∀ n : Nat, n < 256 → ∀ c' : Int, c' ≠ rd pg (n : Int) → 0 ≤ c' → c' < 256 → By (pg.set n c') ∧ decV id (pg.set n c') = (0, [], false)) (hpb : By pg) : Cv (fun k => laws_FnPage.j0 k l0 id pg false) true := by
  obtain ⟨t, ht⟩ : ∃ t : Nat, t = l0.length * 37 % 2048 := ⟨_, rfl⟩
  have hx : wrap64 ((l0.length : Int) * 37) = ((l0.length * 37 : Nat) : Int) := by rw [w64 (by omega) (by omega)]; omega
  have h8 : wrap64 (8 * (pg.length : Int)) = 2048 := by rw [hp]; unfold wrap64; omega
  have h1 : Int.tmod ((l0.length * 37 : Nat) : Int) 2048 = (t : Int) := by rw [ht]; rfl
  have h2 : wrap64 (Int.tdiv (t : Int) 8) = ((t / 8 : Nat) : Int) := by rw [show Int.tdiv (t : Int) 8 = ((t / 8 : Nat) : Int) from rfl, w64 (by omega) (by omega)]
  have h3 : Int.tmod (t : Int) 8 = ((t % 8 : Nat) : Int) := rfl
  have hc := By_rd hpb ((t / 8 : Nat) : Int)
  have hne := bit_flip hc (b := ((t % 8 : Nat) : Int)) ⟨by omega, by omega⟩
  have hlo := bits_lo_u8 .xor (rd pg ((t / 8 : Nat) : Int)) (shl .u8 1 ((t % 8 : Nat) : Int))
  have hhi := bits_hi_u8 .xor (rd pg ((t / 8 : Nat) : Int)) (shl .u8 1 ((t % 8 : Nat) : Int))
  generalize hg : Go.bits .xor .u8 (rd pg ((t / 8 : Nat) : Int)) (shl .u8 1 ((t % 8 : Nat) : Int)) = c' at hne hlo hhi
  obtain ⟨f1, f2⟩ := hf (t / 8) (by omega) c' hne hlo (by omega)
  have tail := tail_ok hb
  have step : Cv (fun k => (impl_DecodePage.f k id (pg.set (t / 8) c')).bind fun bt301 => (if bt301.2.2 = true then (some false) else ((spec_DrawDecodePage.f k l0).bind fun bt306 => ((spec_DecodePage.f k bt306.1 bt306.2).bind fun bt310 => ((impl_DecodePage.f k bt306.1 bt306.2).bind fun bt315 => (if (bt315.2.2 == bt310.2.2) = true then (if bt315.1 = bt310.1 then (some ((strOfNums bt315.2.1).toList == (strOfNums bt310.2.1).toList)) else (some false)) else (some false))))))) true := by
    refine Cv.bind (impl_dec f1) ?_
    rw [f2]
    exact Cv.neg (by decide) tail
  refine Cv.succ step (fun k => ?_)
  conv => lhs; unfold laws_FnPage.j0
  dsimp only
  rw [h8, hx, h1, h2, h3, hg, if_neg (by decide), if_neg (by decide), if_pos (by omega), if_pos (by omega), if_pos (by omega), Int.toNat_natCast]
theorem FnPage : laws_FnPage.Pure := by
  intro l0 hm hs hw
  have hb := By.of_wf hw
  refine Cv.get ?_
  unfold laws_FnPage.f
  by_cases hlen : (l0.length : Int) > 1048576
  · exact Cv.pos hlen (Cv.of rfl)
  refine Cv.neg hlen ?_
  obtain ⟨id, kind, body, h, hbb⟩ := drawEnc hb
  refine Cv.bind h (Cv.bind (spec_enc hbb) (Cv.bind (impl_enc hbb) (Cv.neg (by simp) ?_)))
  by_cases hok : okPage id kind body.length
  case neg =>
    have he : encV id kind body = ([], false) := if_neg hok
    rw [he]
    exact Cv.neg (by decide) (tail_ok hb)
  have he : encV id kind body = (pageOf id.toNat kind.toNat body, true) := if_pos hok
  have hlb : body.length ≤ 240 := by unfold okPage at hok; omega
  have hpb : By (pageOf id.toNat kind.toNat body) := pageOf_by _ _ hbb
  have hpl : (pageOf id.toNat kind.toNat body).length = 256 := pageOf_length _ _ hlb
  have hrt := roundtrip hok
  have hj := j0_ok (id := id) (by omega) hpl hb (fun n hn c' hne h0 h1 => ⟨set_by hpb _ ⟨h0, h1⟩, flip hbb hlb hn ⟨h0, h1⟩ hne⟩) hpb
  rw [he]
  refine Cv.pos rfl ?_
  refine Cv.bind (impl_dec hpb) ?_
  rw [hrt]
  have hst : ((strOfNums body).toList != (strOfNums body).toList) = false := by simp
  refine Cv.pos rfl (Cv.pos rfl ?_)
  dsimp only
  rw [hst]
  exact hj
end Go.Proofs.Ytlopmffdebhpfaa.Pure

/-! ## LawFnPage -/
namespace Go.Proofs.Ytlopmffdebhpfaa.fnPage
open Go.ChangeShapes Go.WideShapes Go.ChangeAt Go.RowKit
open Go.ChangeMaps (open_string shut_string)
set_option linter.unusedVariables false
theorem own : ownKnob Try.prog.godebug = none := by kernel_rfl
theorem laidOut : laidOutB Try.prog = true := by kernel_rfl
def IsRow (k : IntKind) (w : World) (a : Option Addr) (len cap : Nat) (zs : List Int) : Prop :=
  (a = none ∧ len = 0 ∧ cap = 0 ∧ zs = []) ∨
  ∃ x, a = some x ∧ len ≤ cap ∧ cap ≤ maxLen ∧ zs.length = cap ∧ (∀ i, i < zs.length → w.cell? (x.add i) = some (.int k (zs.getD i 0))) ∧ ∀ n ∈ zs, (Lit.int k n).wf = true
set_option maxRecDepth 100000 in
theorem lifted (os : Os) (started : os.Started) (H : Type) (enc : TypeId × Value → H) :
    ReturnsInHanded {} Try.checked os 4 .any (Rows.fnPageSpec.pre6 enc Try.prog Try.f4 Rows.fnPageRow.domain false) (Rows.fnPageSpec.post enc Try.prog Try.f4 false true false false) := by
  refine returnsInHanded_of_change_sized (C := Try.checked) own started (by kernel_rfl) Try.func4
    (ChangeSpec.witness6 (enc := enc) (C := Try.checked) false ⟨#[], #[.slice none 0 0], []⟩ 8 (by kernel_rfl) (by kernel_rfl) (by kernel_rfl) (by kernel_rfl)) ?_
  intro W base args ds gs before hval0 hW hcnd hsz0 _
  have hsz : (DataW.weightsEach Try.prog (Try.f4.params.toList ++ Rows.fnPageSpec.plain.varTypes Try.prog) (ds ++ gs)).all (· ≤ reachBytes) = true := hsz0
  have hval : ∀ (j : Nat) t v, Try.f4.params[j]? = some t → args[j]? = some v → Value.okWide Try.prog W .any base t v := hval0
  have hW' := hW
  obtain ⟨p, q, hA0, hV, rfl, hfz, hnd⟩ := hW
  have hA : DataW.TrodAll enc Try.prog W 0 (fun _ => true) true Try.f4.params.toList args.toList ds p := hA0
  rw [Try.params4] at hA hval hsz
  obtain ⟨v0, vs0, d0, ds0, p0, q0, hargs, rfl, rfl, h0, r0⟩ := trodAll_cons hA
  obtain ⟨rfl, rfl, rfl⟩ := trodAll_nil r0
  obtain rfl : args = #[v0] := by cases args; simp_all
  obtain ⟨rfl, rfl⟩ := trodVars_none hV
  obtain ⟨a0, len0, cap0, rfl⟩ := okWide_slice Try.underlying22 (hval 0 22 v0 rfl rfl)
  have k0 := h0
  have lt0 : ∀ x ∈ p0, x.block < W.heap.size := by obtain ⟨m, hm⟩ := k0; exact DataW.trod_lt m _ _ _ hm
  obtain ⟨z0, w0⟩ : ∃ zs, IsRow .u8 W a0 len0 cap0 zs := by
    obtain ⟨fuel, hf⟩ := h0
    rcases open_ints Try.underlying22 Try.underlying5 (by kernel_rfl) hf with ⟨hcs, _⟩ | ⟨x, l, c, zs, hcs, _, hl, hm, hz, _, hcell, hwz⟩
    · simp [Value.cells] at hcs
      obtain ⟨rfl, rfl, rfl⟩ := hcs
      exact ⟨[], .inl ⟨rfl, rfl, rfl, rfl⟩⟩
    · simp [Value.cells] at hcs
      obtain ⟨rfl, rfl, rfl⟩ := hcs
      exact ⟨zs, .inr ⟨_, rfl, hl, hm, by simpa using hz, hcell, hwz⟩⟩
  have y0 : len0 * 1 ≤ 140737488351232 := Go.Proofs.YtlopmffdebhpfaaW.PrintWords.sized_ints hsz (j := 0) (t := 22) rfl rfl Try.underlying22 Try.underlying5 (by kernel_rfl) (by kernel_rfl) h0
  clear hA0 hval0 hsz0 hsz
  refine (G.laws_FnPage.walk Pure.FnPage a0 len0 cap0 z0 W w0 y0).mono fun e W' ⟨he, bel⟩ => ?_
  subst he
  exact ⟨_, rfl, _, _, _, [], _, [], hW', trodAll_mk1 (shut_bool Try.underlying4 _), (trodAll_cons_mk (Below.trod laidOut (by kernel_rfl) (of_decide_eq_true (by kernel_rfl)) k0 bel lt0) trodAll_mk0), rfl, bel.frame _, fun h => by cases h⟩
theorem over : Rows.fnPageRow.holds Try.pinned (OpenSpec.ofChange Rows.fnPageSpec) :=
  OpenClaim.holds_of_wide 4 Try.f4 rfl rfl rfl rfl rfl rfl rfl ⟨rfl, rfl, rfl, rfl, rfl⟩ rfl rfl rfl rfl rfl (by kernel_rfl) Try.func4 (by kernel_rfl)
    (of_decide_eq_true (by kernel_rfl)) (by unfold Func.isWrapper; first | (rw [if_pos (by decide +kernel)]; kernel_rfl) | (rw [if_neg (by decide +kernel)]; exact ⟨rfl, rfl⟩))
    (fun os started H enc _ => lifted os started H enc)
theorem proved : Rows.FnPageSaid := over
#print axioms proved
end Go.Proofs.Ytlopmffdebhpfaa.fnPage
namespace Go.Proofs.Ytlopmffdebhpfaa
/-- The row, under a short name, for the claim. -/
theorem fnPage_holds : Rows.FnPageSaid := fnPage.proved
end Go.Proofs.Ytlopmffdebhpfaa
