/- Texts of this proof, joined in their build order: G23 Base Blk G135 Shelf Lib1 Head G136 PageB G130 G79 G131 Parse Err Page. -/
import Derived.Test.YtlopmffdebhpfaaK4a
import Derived.Shelf.Bytes.SlSearch0
import Derived.Ground.SlbCloneProg
import Derived.Shelf.Bytes.SlClone
import Derived.Ground.SlbNamesProg
import Derived.Shelf.Bytes.SlJoin
import Derived.Shelf.Bytes.SlEqualAll
import Derived.Shelf.Bytes.Small
import Derived.Test.YtlopmffdebhpfaaProg
import Derived.WalkKit
import Derived.LaidEql
import Derived.Stop.Asserts
import Derived.RowKitTokens
import Derived.KernelRfl
/-! ## G23 -/
namespace Go.Proofs.Ytlopmffdebhpfaa.G
open Go.RowKit Go.Proofs.YtlopmffdebhpfaaW.PrintWords Go.Proofs.YtlopmffdebhpfaaW.PrintLast Go.Proofs.YtlopmffdebhpfaaW.PrintMore
attribute [local go_sem] max2_int min2_int max_two min_two max_three min_three max_four min_four
set_option linter.unusedVariables false
set_option linter.unusedSimpArgs false

/-! ### spec_DrawDecodePage: function 23 -/
mutual
def spec_DrawDecodePage.j0 : Nat → Int → Int → List Int → Int → Bool → Option (Int × List Int)
  | 0, _, _, _, _, _ => none
  | k + 1, x5, x6, x7, x9, x39 => if x39 = true then (if (x7.length : Int) = 0 then (none) else (if 0 ≤ (Int.tmod x9 (x7.length : Int)) then (if (Int.tmod x9 (x7.length : Int)) < (x7.length : Int) then (spec_DrawDecodePage.j1 k x5 x6 (x7.set ((Int.tmod x9 (x7.length : Int)) : Int).toNat (Go.bits .xor .u8 (rd x7 (Int.tmod x9 (x7.length : Int))) ((wrap64 (1 + (Int.tmod (wrap64 (Int.tdiv x9 256)) 128))) % 256)))) else (none)) else (none))) else (spec_DrawDecodePage.j1 k x5 x6 x7)
def spec_DrawDecodePage.j1 : Nat → Int → Int → List Int → Option (Int × List Int)
  | 0, _, _, _ => none
  | k + 1, x5, x6, x7 => if (Int.tmod x5 16) = 2 then (if (Int.tmod x5 32) = 1 then (if x7.length < 140737488355328 then (some (wrap64 (x6 + 1), (x7 ++ [0]))) else (none)) else (some (wrap64 (x6 + 1), x7))) else (if (Int.tmod x5 32) = 1 then (if x7.length < 140737488355328 then (some (x6, (x7 ++ [0]))) else (none)) else (some (x6, x7)))
end
def spec_DrawDecodePage.f (k : Nat) (l0 : List Int) : Option (Int × List Int) := (spec_l1Open.f l0).bind fun bt254 => ((spec_l1Rd_next.f bt254.1 bt254.2).bind fun bt257 => ((spec_l2Id.f bt254.1 bt257.2).bind fun bt259 => ((spec_l2Body.f k bt254.1 bt259.2).bind fun bt261 => ((spec_EncodePage.f k bt259.1 (wrap64 (1 + (Int.tmod bt257.1 4))) bt261.1).bind fun bt265 => ((spec_l1Rd_next.f bt254.1 bt261.2).bind fun bt269 => ((spec_l1Rd_next.f bt254.1 bt269.2).bind fun bt271 => (if (Int.tmod bt257.1 4) = 3 then (spec_DrawDecodePage.j0 k bt257.1 bt259.1 bt265.1 (wrap64 ((wrap64 (bt269.1 * 256)) + bt271.1)) (decide ((bt265.1.length : Int) > 0))) else (spec_DrawDecodePage.j0 k bt257.1 bt259.1 bt265.1 (wrap64 ((wrap64 (bt269.1 * 256)) + bt271.1)) false))))))))
set_option maxRecDepth 100000 in
theorem spec_DrawDecodePage.mono_l : ∀ k, (∀ y0 y1 y2 y3 y4, LeO (spec_DrawDecodePage.j0 k y0 y1 y2 y3 y4) (spec_DrawDecodePage.j0 (k + 1) y0 y1 y2 y3 y4)) ∧ (∀ y0 y1 y2, LeO (spec_DrawDecodePage.j1 k y0 y1 y2) (spec_DrawDecodePage.j1 (k + 1) y0 y1 y2))
  | 0 => ⟨fun _ _ _ _ _ r h => by simp [spec_DrawDecodePage.j0] at h, fun _ _ _ r h => by simp [spec_DrawDecodePage.j1] at h⟩
  | k + 1 => by
    obtain ⟨ih0, ih1⟩ := spec_DrawDecodePage.mono_l k
    refine ⟨?_, ?_⟩
    · intro y0 y1 y2 y3 y4
      unfold spec_DrawDecodePage.j0
      repeat' first
      | (with_reducible exact ih0 _ _ _ _ _)
      | (with_reducible exact ih1 _ _ _)
      | (with_reducible exact spec_EncodePage.mono _ _ _ _)
      | (with_reducible exact spec_l2Body.mono _ _ _)
      | (with_reducible exact LeO.refl _)
      | (with_reducible exact LeO.none _)
      | (with_reducible refine LeO.ite ?_ ?_)
      | (with_reducible refine LeO.bind ?_ (fun _ => ?_))
      | exact ih0 _ _ _ _ _
      | exact ih1 _ _ _
      | exact spec_EncodePage.mono _ _ _ _
      | exact spec_l2Body.mono _ _ _
      | exact LeO.none _
      | refine LeO.ite ?_ ?_
      | refine LeO.bind ?_ (fun _ => ?_)
    · intro y0 y1 y2
      unfold spec_DrawDecodePage.j1
      repeat' first
      | (with_reducible exact ih0 _ _ _ _ _)
      | (with_reducible exact ih1 _ _ _)
      | (with_reducible exact spec_EncodePage.mono _ _ _ _)
      | (with_reducible exact spec_l2Body.mono _ _ _)
      | (with_reducible exact LeO.refl _)
      | (with_reducible exact LeO.none _)
      | (with_reducible refine LeO.ite ?_ ?_)
      | (with_reducible refine LeO.bind ?_ (fun _ => ?_))
      | exact ih0 _ _ _ _ _
      | exact ih1 _ _ _
      | exact spec_EncodePage.mono _ _ _ _
      | exact spec_l2Body.mono _ _ _
      | exact LeO.none _
      | refine LeO.ite ?_ ?_
      | refine LeO.bind ?_ (fun _ => ?_)
set_option maxRecDepth 100000 in
theorem spec_DrawDecodePage.mono : ∀ a0 k, LeO (spec_DrawDecodePage.f k a0) (spec_DrawDecodePage.f (k + 1) a0) := by
  intro a0 k
  obtain ⟨ih0, ih1⟩ := spec_DrawDecodePage.mono_l k
  unfold spec_DrawDecodePage.f
  repeat' first
      | (with_reducible exact ih0 _ _ _ _ _)
      | (with_reducible exact ih1 _ _ _)
      | (with_reducible exact spec_EncodePage.mono _ _ _ _)
      | (with_reducible exact spec_l2Body.mono _ _ _)
      | (with_reducible exact LeO.refl _)
      | (with_reducible exact LeO.none _)
      | (with_reducible refine LeO.ite ?_ ?_)
      | (with_reducible refine LeO.bind ?_ (fun _ => ?_))
      | exact ih0 _ _ _ _ _
      | exact ih1 _ _ _
      | exact spec_EncodePage.mono _ _ _ _
      | exact spec_l2Body.mono _ _ _
      | exact LeO.none _
      | refine LeO.ite ?_ ?_
      | refine LeO.bind ?_ (fun _ => ?_)
set_option maxHeartbeats 8000000 in
set_option maxRecDepth 100000 in
theorem spec_DrawDecodePage.calls (k : Nat) (A0 : Option Addr) (c0 : Nat) (l0 : List Int) (r1 : Int) (r2 : List Int) (w : World) (hr0 : Kd.C (Kd.int .u8) w A0 l0.length l0) (hc0 : l0.length ≤ c0) (h : spec_DrawDecodePage.f k l0 = some (r1, r2)) :
    Calls Try.prog 23 #[.slice A0 l0.length c0] w fun e w' => ∃ v1_ : Value, e = .returned (.tuple #[.int .i64 r1, v1_]) ∧ Kd.R (Kd.int .u8) 5 w' w.heap.size (fun _ => True) v1_ r2 ∧ Below w.heap.size w w' := by
  have HR0 := Aside0.mk hr0
  have HC0 := Aside0.mk hc0
  clear hr0 hc0
  have HB := Aside0.mk (Below.refl w.heap.size w)
  have H : ((spec_l1Open.f l0).bind fun bt254 => ((spec_l1Rd_next.f bt254.1 bt254.2).bind fun bt257 => ((spec_l2Id.f bt254.1 bt257.2).bind fun bt259 => ((spec_l2Body.f k bt254.1 bt259.2).bind fun bt261 => ((spec_EncodePage.f k bt259.1 (wrap64 (1 + (Int.tmod bt257.1 4))) bt261.1).bind fun bt265 => ((spec_l1Rd_next.f bt254.1 bt261.2).bind fun bt269 => ((spec_l1Rd_next.f bt254.1 bt269.2).bind fun bt271 => (if (Int.tmod bt257.1 4) = 3 then (spec_DrawDecodePage.j0 k bt257.1 bt259.1 bt265.1 (wrap64 ((wrap64 (bt269.1 * 256)) + bt271.1)) (decide ((bt265.1.length : Int) > 0))) else (spec_DrawDecodePage.j0 k bt257.1 bt259.1 bt265.1 (wrap64 ((wrap64 (bt269.1 * 256)) + bt271.1)) false))))))))) = some (r1, r2) := h
  clear h
  replace H := Option.bind_eq_some_iff.mp H
  obtain ⟨⟨t254, t255⟩, A20, H⟩ := H
  replace H : ((spec_l1Rd_next.f t254 t255).bind fun bt257 => ((spec_l2Id.f t254 bt257.2).bind fun bt259 => ((spec_l2Body.f k t254 bt259.2).bind fun bt261 => ((spec_EncodePage.f k bt259.1 (wrap64 (1 + (Int.tmod bt257.1 4))) bt261.1).bind fun bt265 => ((spec_l1Rd_next.f t254 bt261.2).bind fun bt269 => ((spec_l1Rd_next.f t254 bt269.2).bind fun bt271 => (if (Int.tmod bt257.1 4) = 3 then (spec_DrawDecodePage.j0 k bt257.1 bt259.1 bt265.1 (wrap64 ((wrap64 (bt269.1 * 256)) + bt271.1)) (decide ((bt265.1.length : Int) > 0))) else (spec_DrawDecodePage.j0 k bt257.1 bt259.1 bt265.1 (wrap64 ((wrap64 (bt269.1 * 256)) + bt271.1)) false)))))))) = some (r1, r2) := H
  have A2 := Aside0.mk A20
  clear A20
  replace H := Option.bind_eq_some_iff.mp H
  obtain ⟨⟨t257, t258⟩, A30, H⟩ := H
  replace H : ((spec_l2Id.f t254 t258).bind fun bt259 => ((spec_l2Body.f k t254 bt259.2).bind fun bt261 => ((spec_EncodePage.f k bt259.1 (wrap64 (1 + (Int.tmod t257 4))) bt261.1).bind fun bt265 => ((spec_l1Rd_next.f t254 bt261.2).bind fun bt269 => ((spec_l1Rd_next.f t254 bt269.2).bind fun bt271 => (if (Int.tmod t257 4) = 3 then (spec_DrawDecodePage.j0 k t257 bt259.1 bt265.1 (wrap64 ((wrap64 (bt269.1 * 256)) + bt271.1)) (decide ((bt265.1.length : Int) > 0))) else (spec_DrawDecodePage.j0 k t257 bt259.1 bt265.1 (wrap64 ((wrap64 (bt269.1 * 256)) + bt271.1)) false))))))) = some (r1, r2) := H
  have A3 := Aside0.mk A30
  clear A30
  replace H := Option.bind_eq_some_iff.mp H
  obtain ⟨⟨t259, t260⟩, A40, H⟩ := H
  replace H : ((spec_l2Body.f k t254 t260).bind fun bt261 => ((spec_EncodePage.f k t259 (wrap64 (1 + (Int.tmod t257 4))) bt261.1).bind fun bt265 => ((spec_l1Rd_next.f t254 bt261.2).bind fun bt269 => ((spec_l1Rd_next.f t254 bt269.2).bind fun bt271 => (if (Int.tmod t257 4) = 3 then (spec_DrawDecodePage.j0 k t257 t259 bt265.1 (wrap64 ((wrap64 (bt269.1 * 256)) + bt271.1)) (decide ((bt265.1.length : Int) > 0))) else (spec_DrawDecodePage.j0 k t257 t259 bt265.1 (wrap64 ((wrap64 (bt269.1 * 256)) + bt271.1)) false)))))) = some (r1, r2) := H
  have A4 := Aside0.mk A40
  clear A40
  replace H := Option.bind_eq_some_iff.mp H
  obtain ⟨⟨t261, t264⟩, A50, H⟩ := H
  replace H : ((spec_EncodePage.f k t259 (wrap64 (1 + (Int.tmod t257 4))) t261).bind fun bt265 => ((spec_l1Rd_next.f t254 t264).bind fun bt269 => ((spec_l1Rd_next.f t254 bt269.2).bind fun bt271 => (if (Int.tmod t257 4) = 3 then (spec_DrawDecodePage.j0 k t257 t259 bt265.1 (wrap64 ((wrap64 (bt269.1 * 256)) + bt271.1)) (decide ((bt265.1.length : Int) > 0))) else (spec_DrawDecodePage.j0 k t257 t259 bt265.1 (wrap64 ((wrap64 (bt269.1 * 256)) + bt271.1)) false))))) = some (r1, r2) := H
  have A5 := Aside0.mk A50
  clear A50
  replace H := Option.bind_eq_some_iff.mp H
  obtain ⟨⟨t265, t266⟩, A60, H⟩ := H
  replace H : ((spec_l1Rd_next.f t254 t264).bind fun bt269 => ((spec_l1Rd_next.f t254 bt269.2).bind fun bt271 => (if (Int.tmod t257 4) = 3 then (spec_DrawDecodePage.j0 k t257 t259 t265 (wrap64 ((wrap64 (bt269.1 * 256)) + bt271.1)) (decide ((t265.length : Int) > 0))) else (spec_DrawDecodePage.j0 k t257 t259 t265 (wrap64 ((wrap64 (bt269.1 * 256)) + bt271.1)) false)))) = some (r1, r2) := H
  have A6 := Aside0.mk A60
  clear A60
  replace H := Option.bind_eq_some_iff.mp H
  obtain ⟨⟨t269, t270⟩, A70, H⟩ := H
  replace H : ((spec_l1Rd_next.f t254 t270).bind fun bt271 => (if (Int.tmod t257 4) = 3 then (spec_DrawDecodePage.j0 k t257 t259 t265 (wrap64 ((wrap64 (t269 * 256)) + bt271.1)) (decide ((t265.length : Int) > 0))) else (spec_DrawDecodePage.j0 k t257 t259 t265 (wrap64 ((wrap64 (t269 * 256)) + bt271.1)) false))) = some (r1, r2) := H
  have A7 := Aside0.mk A70
  clear A70
  replace H := Option.bind_eq_some_iff.mp H
  obtain ⟨⟨t271, t272⟩, A80, H⟩ := H
  replace H : (if (Int.tmod t257 4) = 3 then (spec_DrawDecodePage.j0 k t257 t259 t265 (wrap64 ((wrap64 (t269 * 256)) + t271)) (decide ((t265.length : Int) > 0))) else (spec_DrawDecodePage.j0 k t257 t259 t265 (wrap64 ((wrap64 (t269 * 256)) + t271)) false)) = some (r1, r2) := H
  have A8 := Aside0.mk A80
  clear A80
  have HC9 := Aside0.mk H
  clear H
  go_enter Try.func23, Try.ntmps23
  go_upto_region 6 with (first | ((with_reducible refine gate_callee (f := 73) rfl ?_); refine goesL_ (some 11) rfl rfl Try.func73 (by kernel_rfl) rfl #[.slice A0 l0.length c0] rfl (by (try simp only [List.map_toArray, List.map_cons, List.map_nil]); first | done | rfl | (simp only [List.length_drop, List.length_take]; rfl)) ?_; (with_reducible refine (spec_l1Open.calls _ _ l0 t254 t255 w _ ?side1 ?side2 ?side3 A2.out).mono ?_); (case side1 => repeat (first | (with_reducible first | exact HB.out | apply below_alloc | apply pw_below_drewN | apply below_drew1) | exact HB.out)); (case side2 => exact HR0.out); (case side3 => exact HC0.out); rintro e w10 ⟨g256, rfl, hi, hb, hb2⟩; refine ⟨_, rfl, ?_⟩; have n0_ := Aside0.mk (hb); have n1_ := Aside0.mk (hi); clear HB; have HB := n0_; have HI256 := n1_; clear n0_ n1_; (try clear hb); (try clear hb2); (try clear hk); (try clear hi)) | ((with_reducible refine gate_callee (f := 74) rfl ?_); refine goesL_ (some 13) rfl rfl Try.func74 (by kernel_rfl) rfl #[.pointer (some ⟨g256, 0, none⟩)] rfl (by (try simp only [List.map_toArray, List.map_cons, List.map_nil]); first | done | rfl | (simp only [List.length_drop, List.length_take]; rfl)) ?_; (with_reducible refine (spec_l1Rd_next.calls g256 t254 t255 t257 t258 w _ ?side1 ?side2 A3.out).mono ?_); (case side1 => repeat (first | (with_reducible first | exact HI256.out | apply IsS181.alloc | apply IsS181.drewN | apply IsS181.drew | apply IsS181.set_1) | exact HI256.out)); (case side2 => repeat (first | (with_reducible first | exact HB.out | apply below_alloc | apply pw_below_drewN | apply below_drew1 | refine below_set ?_ (IsS181.ge HI256.out)) | exact HB.out)); rintro e w11 ⟨rfl, hi, hb, hk⟩; refine ⟨_, rfl, ?_⟩; have n0_ := Aside0.mk (hb); have n1_ := Aside0.mk (hi); clear HB; clear HI256; have HB := n0_; have HI256 := n1_; clear n0_ n1_; (try clear hb); (try clear hb2); (try clear hk); (try clear hi)) | ((with_reducible refine gate_callee (f := 75) rfl ?_); refine goesL_ (some 15) rfl rfl Try.func75 (by kernel_rfl) rfl #[.pointer (some ⟨g256, 0, none⟩)] rfl (by (try simp only [List.map_toArray, List.map_cons, List.map_nil]); first | done | rfl | (simp only [List.length_drop, List.length_take]; rfl)) ?_; (with_reducible refine (spec_l2Id.calls g256 t254 t258 t259 t260 w _ ?side1 ?side2 A4.out).mono ?_); (case side1 => repeat (first | (with_reducible first | exact HI256.out | apply IsS181.alloc | apply IsS181.drewN | apply IsS181.drew | apply IsS181.set_1) | exact HI256.out)); (case side2 => repeat (first | (with_reducible first | exact HB.out | apply below_alloc | apply pw_below_drewN | apply below_drew1 | refine below_set ?_ (IsS181.ge HI256.out)) | exact HB.out)); rintro e w12 ⟨rfl, hi, hb, hk⟩; refine ⟨_, rfl, ?_⟩; have n0_ := Aside0.mk (hb); have n1_ := Aside0.mk (hi); clear HB; clear HI256; have HB := n0_; have HI256 := n1_; clear n0_ n1_; (try clear hb); (try clear hb2); (try clear hk); (try clear hi)) | ((with_reducible refine gate_callee (f := 76) rfl ?_); refine goesL_ (some 22) rfl rfl Try.func76 (by kernel_rfl) rfl #[.pointer (some ⟨g256, 0, none⟩)] rfl (by (try simp only [List.map_toArray, List.map_cons, List.map_nil]); first | done | rfl | (simp only [List.length_drop, List.length_take]; rfl)) ?_; (with_reducible refine (spec_l2Body.calls k g256 t254 t260 t261 t264 w _ ?side1 ?side2 A5.out).mono ?_); (case side1 => repeat (first | (with_reducible first | exact HI256.out | apply IsS181.alloc | apply IsS181.drewN | apply IsS181.drew | apply IsS181.set_1) | exact HI256.out)); (case side2 => repeat (first | (with_reducible first | exact HB.out | apply below_alloc | apply pw_below_drewN | apply below_drew1 | refine below_set ?_ (IsS181.ge HI256.out)) | exact HB.out)); rintro e w13 ⟨v262, rfl, ho0, hi, hb, hk⟩; refine ⟨_, rfl, ?_⟩; have n0_ := Aside0.mk (Kd.R_lower ho0 (below_size (by repeat (first | (with_reducible first | exact HB.out | apply below_alloc | apply pw_below_drewN | apply below_drew1 | refine below_set ?_ (IsS181.ge HI256.out)) | exact HB.out)))); have n1_ := Aside0.mk (hb); have n2_ := Aside0.mk (hi); clear HB; clear HI256; have HO263 := n0_; have HB := n1_; have HI256 := n2_; clear n0_ n1_ n2_; (try clear hb); (try clear hb2); (try clear hk); (try clear hi); (try clear ho0); obtain ⟨Ao14, co14, eo14⟩ := Kd.R_slice HO263.out; subst eo14) | ((with_reducible refine gate_callee (f := 21) rfl ?_); refine goesL_ (some 23) rfl rfl Try.func21 (by kernel_rfl) rfl #[.int .i64 t259, .int .i64 (wrap64 (1 + (Int.tmod t257 4))), .slice Ao14 t261.length co14] rfl (by (try simp only [List.map_toArray, List.map_cons, List.map_nil]); first | done | rfl | (simp only [List.length_drop, List.length_take]; rfl)) ?_; (with_reducible refine (spec_EncodePage.calls k t259 (wrap64 (1 + (Int.tmod t257 4))) _ _ t261 t265 t266 _ ?side1 ?side2 A6.out).mono ?_); (case side1 => repeat (first | exact (Kd.R_reads' HO263.out).2.2 | (with_reducible refine Kd.C_alloc ?_ _) | (with_reducible refine Kd.C_drewN ?_ _) | (with_reducible refine Kd.C_drew ?_))); (case side2 => exact (Kd.R_reads' HO263.out).2.1); rintro e w15 ⟨v267, rfl, ho0, hb⟩; refine ⟨_, rfl, ?_⟩; have n0_ := Aside0.mk (Kd.R_elder' (by (with_reducible repeat (first | apply Kd.R_alloc | apply Kd.R_drewN | apply Kd.R_drew)); exact HO263.out) (Kd.R_base ho0) hb); have n1_ := Aside0.mk (Kd.R_lower (Kd.R_new' ho0 (Kd.R_lt (by (with_reducible repeat (first | apply Kd.R_alloc | apply Kd.R_drewN | apply Kd.R_drew)); exact HO263.out))) (below_size (by repeat (first | (with_reducible first | exact HB.out | apply below_alloc | apply pw_below_drewN | apply below_drew1 | refine below_set ?_ (IsS181.ge HI256.out)) | exact HB.out)))); have n2_ := Aside0.mk (IsS181.below (by repeat (first | (with_reducible first | exact HI256.out | apply IsS181.alloc | apply IsS181.drewN | apply IsS181.drew | apply IsS181.set_1) | exact HI256.out)) hb); have n3_ := Aside0.mk (below_step (by repeat (first | (with_reducible first | exact HB.out | apply below_alloc | apply pw_below_drewN | apply below_drew1 | refine below_set ?_ (IsS181.ge HI256.out)) | exact HB.out)) hb); clear HO263; clear HI256; clear HB; have HO263 := n0_; have HO268 := n1_; have HI256 := n2_; have HB := n3_; clear n0_ n1_ n2_ n3_; (try clear hb); (try clear hb2); (try clear hk); (try clear hi); (try clear ho0)) | ((with_reducible refine gate_callee (f := 74) rfl ?_); refine goesL_ (some 27) rfl rfl Try.func74 (by kernel_rfl) rfl #[.pointer (some ⟨g256, 0, none⟩)] rfl (by (try simp only [List.map_toArray, List.map_cons, List.map_nil]); first | done | rfl | (simp only [List.length_drop, List.length_take]; rfl)) ?_; (with_reducible refine (spec_l1Rd_next.calls g256 t254 t264 t269 t270 w _ ?side1 ?side2 A7.out).mono ?_); (case side1 => repeat (first | (with_reducible first | exact HI256.out | apply IsS181.alloc | apply IsS181.drewN | apply IsS181.drew | apply IsS181.set_1) | exact HI256.out)); (case side2 => repeat (first | (with_reducible first | exact HB.out | apply below_alloc | apply pw_below_drewN | apply below_drew1 | refine below_set ?_ (IsS181.ge HI256.out)) | exact HB.out)); rintro e w16 ⟨rfl, hi, hb, hk⟩; refine ⟨_, rfl, ?_⟩; have n0_ := Aside0.mk (Kd.R_mono (Kd.R_keep (IsS181.apart (show IsS181 w _ g256 t254 t264 from by repeat (first | (with_reducible first | exact HI256.out | apply IsS181.alloc | apply IsS181.drewN | apply IsS181.drew | apply IsS181.set_1) | exact HI256.out)) (by (with_reducible repeat (first | apply Kd.R_alloc | apply Kd.R_drewN | apply Kd.R_drew)); exact HO263.out) (by decide)) hk (fun _ h => h.2)) (fun _ h => h.1)); have n1_ := Aside0.mk (Kd.R_mono (Kd.R_keep (IsS181.apart (show IsS181 w _ g256 t254 t264 from by repeat (first | (with_reducible first | exact HI256.out | apply IsS181.alloc | apply IsS181.drewN | apply IsS181.drew | apply IsS181.set_1) | exact HI256.out)) (by (with_reducible repeat (first | apply Kd.R_alloc | apply Kd.R_drewN | apply Kd.R_drew)); exact HO268.out) (by decide)) hk (fun _ h => h.2)) (fun _ h => h.1)); have n2_ := Aside0.mk (hb); have n3_ := Aside0.mk (hi); clear HO263; clear HO268; clear HB; clear HI256; have HO263 := n0_; have HO268 := n1_; have HB := n2_; have HI256 := n3_; clear n0_ n1_ n2_ n3_; (try clear hb); (try clear hb2); (try clear hk); (try clear hi)) | ((with_reducible refine gate_callee (f := 74) rfl ?_); refine goesL_ (some 30) rfl rfl Try.func74 (by kernel_rfl) rfl #[.pointer (some ⟨g256, 0, none⟩)] rfl (by (try simp only [List.map_toArray, List.map_cons, List.map_nil]); first | done | rfl | (simp only [List.length_drop, List.length_take]; rfl)) ?_; (with_reducible refine (spec_l1Rd_next.calls g256 t254 t270 t271 t272 w _ ?side1 ?side2 A8.out).mono ?_); (case side1 => repeat (first | (with_reducible first | exact HI256.out | apply IsS181.alloc | apply IsS181.drewN | apply IsS181.drew | apply IsS181.set_1) | exact HI256.out)); (case side2 => repeat (first | (with_reducible first | exact HB.out | apply below_alloc | apply pw_below_drewN | apply below_drew1 | refine below_set ?_ (IsS181.ge HI256.out)) | exact HB.out)); rintro e w17 ⟨rfl, hi, hb, hk⟩; refine ⟨_, rfl, ?_⟩; have n0_ := Aside0.mk (Kd.R_mono (Kd.R_keep (IsS181.apart (show IsS181 w _ g256 t254 t270 from by repeat (first | (with_reducible first | exact HI256.out | apply IsS181.alloc | apply IsS181.drewN | apply IsS181.drew | apply IsS181.set_1) | exact HI256.out)) (by (with_reducible repeat (first | apply Kd.R_alloc | apply Kd.R_drewN | apply Kd.R_drew)); exact HO263.out) (by decide)) hk (fun _ h => h.2)) (fun _ h => h.1)); have n1_ := Aside0.mk (Kd.R_mono (Kd.R_keep (IsS181.apart (show IsS181 w _ g256 t254 t270 from by repeat (first | (with_reducible first | exact HI256.out | apply IsS181.alloc | apply IsS181.drewN | apply IsS181.drew | apply IsS181.set_1) | exact HI256.out)) (by (with_reducible repeat (first | apply Kd.R_alloc | apply Kd.R_drewN | apply Kd.R_drew)); exact HO268.out) (by decide)) hk (fun _ h => h.2)) (fun _ h => h.1)); have n2_ := Aside0.mk (hb); have n3_ := Aside0.mk (hi); clear HO263; clear HO268; clear HB; clear HI256; have HO263 := n0_; have HO268 := n1_; have HB := n2_; have HI256 := n3_; clear n0_ n1_ n2_ n3_; (try clear hb); (try clear hb2); (try clear hk); (try clear hi)))
  (try simp only [Act.put, List.setIfInBounds_toArray, List.set_cons_zero, List.set_cons_succ])
  go_cut [39] (fun v39 wc => ∃ (kq : Nat) (x39_8 : Bool), v39 = .bool x39_8 ∧ Aside0 (spec_DrawDecodePage.j0 kq t257 t259 t265 (wrap64 ((wrap64 (t269 * 256)) + t271)) x39_8 = some (r1, r2)) ∧ Aside0 (kq ≤ k) ∧ Aside0 (Kd.R (Kd.int .u8) 5 wc w.heap.size (fun _ => True) v267 t265) ∧ Aside0 (Below w.heap.size w wc))
  case first =>
    have H := HC9.out
    clear HC9
    by_cases c18 : (Int.tmod t257 4) = 3
    · rw [if_pos c18] at H
      have c18b0 : ((Int.tmod t257 4) == 3) = true := beq_iff_eq.mpr c18
      have c18b1 : ((Int.tmod t257 4) != 3) = false := bne_eq_false_iff_eq.mpr c18
      clear c18
      (first | rw [c18b0] | (simp only [i64_w, i32_w]; rw [c18b0]) | skip)
      have H' := Aside0.mk H
      clear H
      obtain ⟨Ao19, co19, eo19⟩ := Kd.R_slice HO268.out
      subst eo19
      go_wp2
      go_meet
      case rel => exact ⟨_, (decide ((t265.length : Int) > 0)), (by first | rfl | (simp; done) | (simp [*]; done)), H', ⟨by first | omega | exact Nat.le_refl _⟩, ⟨by (with_reducible repeat (first | apply Kd.R_alloc | apply Kd.R_drewN | apply Kd.R_drew)); exact Kd.R_mono HO268.out (fun _ hk => trivial)⟩, ⟨by repeat (first | (with_reducible first | exact HB.out | apply below_alloc | apply pw_below_drewN | apply below_drew1 | refine below_set ?_ (IsS181.ge HI256.out)) | exact HB.out)⟩⟩
    · rw [if_neg c18] at H
      have c18b0 : ((Int.tmod t257 4) == 3) = false := beq_eq_false_iff_ne.mpr c18
      have c18b1 : ((Int.tmod t257 4) != 3) = true := bne_iff_ne.mpr c18
      (first | rw [c18b0] | (simp only [i64_w, i32_w]; rw [c18b0]) | skip)
      have H' := Aside0.mk H
      clear H
      go_wp2
      go_meet
      case rel => exact ⟨_, (false), (by first | rfl | (simp; done) | (simp [*]; done)), H', ⟨by first | omega | exact Nat.le_refl _⟩, ⟨by (with_reducible repeat (first | apply Kd.R_alloc | apply Kd.R_drewN | apply Kd.R_drew)); exact Kd.R_mono HO268.out (fun _ hk => trivial)⟩, ⟨by repeat (first | (with_reducible first | exact HB.out | apply below_alloc | apply pw_below_drewN | apply below_drew1 | refine below_set ?_ (IsS181.ge HI256.out)) | exact HB.out)⟩⟩
  case rest =>
    clear HC9
    try clear c1
    try clear c2
    try clear p2
    try clear p6
    try clear c7
    try clear c18
    try clear c18b0
    try clear c18b1
    obtain ⟨kq, x39_8, rfl, HA, HJ8, HO_7, HB⟩ := hcut
    cases kq with
    | zero => exact absurd HA.out (by simp [spec_DrawDecodePage.j0])
    | succ kj8 =>
      have H := HA.out
      clear HA
      simp only [spec_DrawDecodePage.j0] at H
      have HC20 := Aside0.mk H
      clear H
      go_upto_if 39 with (fail)
      go_cut [] (fun wc => ∃ (kq : Nat) (x7_19 : List Int), Aside0 (spec_DrawDecodePage.j1 kq t257 t259 x7_19 = some (r1, r2)) ∧ Aside0 (kq ≤ kj8) ∧ Aside0 (Kd.R (Kd.int .u8) 5 wc w.heap.size (fun _ => True) v267 x7_19) ∧ Aside0 (Below w.heap.size w wc))
      case first =>
        have H := HC20.out
        clear HC20
        by_cases c21 : x39_8 = true
        · subst c21
          have H1 : (if (t265.length : Int) = 0 then (none) else (if 0 ≤ (Int.tmod (wrap64 ((wrap64 (t269 * 256)) + t271)) (t265.length : Int)) then (if (Int.tmod (wrap64 ((wrap64 (t269 * 256)) + t271)) (t265.length : Int)) < (t265.length : Int) then (spec_DrawDecodePage.j1 kj8 t257 t259 (t265.set ((Int.tmod (wrap64 ((wrap64 (t269 * 256)) + t271)) (t265.length : Int)) : Int).toNat (Go.bits .xor .u8 (rd t265 (Int.tmod (wrap64 ((wrap64 (t269 * 256)) + t271)) (t265.length : Int))) ((wrap64 (1 + (Int.tmod (wrap64 (Int.tdiv (wrap64 ((wrap64 (t269 * 256)) + t271)) 256)) 128))) % 256)))) else (none)) else (none))) = some (r1, r2) := by rw [if_pos rfl] at H; exact H
          clear H
          have H := H1
          clear H1
          by_cases c22 : (t265.length : Int) = 0
          · rw [if_pos c22] at H
            exact absurd H (by simp)
          · rw [if_neg c22] at H
            have c22b0 : ((t265.length : Int) == 0) = false := beq_eq_false_iff_ne.mpr c22
            have c22b1 : ((t265.length : Int) != 0) = true := bne_iff_ne.mpr c22
            have c22b2 : ¬ (t265 = []) := fun h_ => c22 (by rw [h_]; rfl)
            (first | rw [c22b0] | (simp only [i64_w, i32_w]; rw [c22b0]) | skip)
            obtain ⟨ji23, hji23⟩ : ∃ j_ : Int, (Int.tmod (wrap64 ((wrap64 (t269 * 256)) + t271)) (t265.length : Int)) = j_ := ⟨_, rfl⟩
            replace H : (if 0 ≤ (ji23) then (if (ji23) < (t265.length : Int) then (spec_DrawDecodePage.j1 kj8 t257 t259 (t265.set ((ji23) : Int).toNat (Go.bits .xor .u8 (rd t265 (ji23)) ((wrap64 (1 + (Int.tmod (wrap64 (Int.tdiv (wrap64 ((wrap64 (t269 * 256)) + t271)) 256)) 128))) % 256)))) else (none)) else (none)) = some (r1, r2) := by first | (rw [hji23] at H; exact H) | (simp only [hji23] at H ⊢; exact H)
            by_cases c24 : 0 ≤ (ji23)
            · rw [if_pos c24] at H
              have c24b0 : decide (0 ≤ (ji23)) = true := decide_eq_true c24
              clear c24
              by_cases c25 : (ji23) < (t265.length : Int)
              · rw [if_pos c25] at H
                have c25b0 : decide ((ji23) < (t265.length : Int)) = true := decide_eq_true c25
                clear c25
                obtain ⟨y274, hy274⟩ : ∃ y_ : List Int, y_ = (t265.set ((ji23) : Int).toNat (Go.bits .xor .u8 (rd t265 (ji23)) ((wrap64 (1 + (Int.tmod (wrap64 (Int.tdiv (wrap64 ((wrap64 (t269 * 256)) + t271)) 256)) 128))) % 256))) := ⟨_, rfl⟩
                replace H : (spec_DrawDecodePage.j1 kj8 t257 t259 y274) = some (r1, r2) := by first | (rw [hy274]; with_reducible exact H) | (have H2_ := (Option.bind_some _ _).symm.trans H; rw [hy274]; with_reducible exact H2_) | (have H2_ := (Option.bind_some _ _).symm.trans H; with_reducible exact H2_) | with_reducible exact H | (rw [hy274]; exact H) | exact H
                have Ny274 := Aside0.mk hy274
                clear hy274
                have H' := Aside0.mk H
                clear H
                obtain ⟨Ao27, co27, eo27⟩ := Kd.R_slice HO_7.out
                subst eo27
                have p273 : 0 ≤ ((ji23) : Int) := of_decide_eq_true (by first | (with_reducible assumption) | assumption)
                have q273 : (ji23) < (t265.length : Int) := of_decide_eq_true (by first | (with_reducible assumption) | assumption)
                obtain ⟨ad273, e273, hx273_0⟩ := Kd.at_int (Kd.R_reads' HO_7.out).2.2 (ji23) p273 q273
                cases e273
                replace p273 := eq_true p273
                replace q273 := eq_true q273
                have p26 : 0 ≤ ((ji23) : Int) := of_decide_eq_true (by first | (with_reducible assumption) | assumption)
                have q26 : ((ji23) : Int) < ((t265.length : Int) : Int) := of_decide_eq_true (by first | (with_reducible assumption) | assumption)
                obtain ⟨go26, co26, eo26, gb26, gl26, cl26, HG26⟩ := Kd.R_form HO_7.out (by omega)
                (first | cases eo26 | (injection eo26 with ea_ en_ ec_; (first | subst ea_ | (injection ea_ with ea_; subst ea_)); subst ec_; clear en_))
                have GB26 := Aside0.mk gb26
                have GG26 := Aside0.mk HG26
                clear gb26 gl26 HG26
                (first | simp only [add_plain] at hx273_0 | skip)
                obtain ⟨hx26_0, hf26_0⟩ := Kd.R_celln 0 HO_7.out ((ji23) : Int) p26 q26
                replace p26 := eq_true p26
                replace q26 := eq_true q26
                have HP28 := Kd.R_putg HO_7.out ((ji23) : Int) (Go.bits .xor .u8 (rd t265 (ji23)) ((wrap64 (1 + (Int.tmod (wrap64 (Int.tdiv (wrap64 ((wrap64 (t269 * 256)) + t271)) 256)) 128))) % 256))
                go_wp2_with (first | ((with_reducible refine gate_store (t := 5) (p := 53) rfl ?_); refine store_event (t := 5) (p := 53) (v := ?vo_w29) (w1 := (wc.setCell ⟨go26, ((ji23) : Int).toNat, none⟩ (.int .u8 (Go.bits .xor .u8 (rd t265 (ji23)) ((wrap64 (1 + (Int.tmod (wrap64 (Int.tdiv (wrap64 ((wrap64 (t269 * 256)) + t271)) 256)) 128))) % 256))))) ?hg ?ho ?hn ?hr ?_; (case ho => rfl); (case hg => rfl); (case hn => rfl); (case hr => first | (go_simp; done) | (go_simp; rfl)); intro w29 hw; have hg : wc.grownBy w29 (some go26) := (by rw [hw]; exact HP28.2); have hp_ : Kd.R (Kd.int .u8) 5 w29 w.heap.size (fun _ => True) (.slice (some ⟨go26, 0, none⟩) t265.length co27) y274 := (by rw [hw, Ny274.out]; exact HP28.1); clear HP28; have n0_ := Aside0.mk (hp_); have n1_ := Aside0.mk ((by rw [hw]; exact below_set (HB.out) GB26.out : Below w.heap.size w w29)); clear HO_7; clear HB; have HO_7 := n0_; have HB := n1_; clear n0_ n1_; clear hg hw hp_))
                go_meet
                case rel => exact ⟨_, (y274), H', ⟨by have := HJ8.out; first | omega | exact Nat.le_refl _⟩, ⟨by (with_reducible repeat (first | apply Kd.R_alloc | apply Kd.R_drewN | apply Kd.R_drew)); exact HO_7.out⟩, ⟨by repeat (first | (with_reducible first | exact HB.out | apply below_alloc | apply pw_below_drewN | apply below_drew1) | exact HB.out)⟩⟩
              · rw [if_neg c25] at H
                exact absurd H (by simp)
            · rw [if_neg c24] at H
              exact absurd H (by simp)
        · replace c21 := Bool.eq_false_iff.mpr c21
          subst c21
          have H1 : (spec_DrawDecodePage.j1 kj8 t257 t259 t265) = some (r1, r2) := by rw [if_neg (show ¬ (false = true) by decide)] at H; exact H
          clear H
          have H := H1
          clear H1
          have H' := Aside0.mk H
          clear H
          go_wp2
          go_meet
          case rel => exact ⟨_, (t265), H', ⟨by have := HJ8.out; first | omega | exact Nat.le_refl _⟩, ⟨by (with_reducible repeat (first | apply Kd.R_alloc | apply Kd.R_drewN | apply Kd.R_drew)); exact HO_7.out⟩, ⟨by repeat (first | (with_reducible first | exact HB.out | apply below_alloc | apply pw_below_drewN | apply below_drew1) | exact HB.out)⟩⟩
      case rest =>
        clear HC20
        try clear c1
        try clear c2
        try clear p2
        try clear q2
        try clear hx2
        try clear hf2
        try clear p6
        try clear c7
        try clear c18
        try clear c18b0
        try clear c18b1
        try clear c21
        try clear c22
        try clear c22b0
        try clear c22b1
        try clear c22b2
        try clear c23
        try clear c24
        try clear c24b0
        try clear c25
        try clear c25b0
        try clear p26
        try clear q26
        try clear hx26
        try clear hf26
        try clear p27
        try clear q27
        try clear hx27
        try clear hx26_0
        try clear hx273_0
        try clear p2
        try clear p26
        try clear p273
        try clear p6
        try clear q26
        try clear q273
        obtain ⟨kq, x7_19, HA, HJ19, HO_7, HB⟩ := hcut
        cases kq with
        | zero => exact absurd HA.out (by simp [spec_DrawDecodePage.j1])
        | succ kj19 =>
          have H := HA.out
          clear HA
          simp only [spec_DrawDecodePage.j1] at H
          by_cases c30 : (Int.tmod t257 16) = 2
          · rw [if_pos c30] at H
            have c30b0 : ((Int.tmod t257 16) == 2) = true := beq_iff_eq.mpr c30
            have c30b1 : ((Int.tmod t257 16) != 2) = false := bne_eq_false_iff_eq.mpr c30
            clear c30
            by_cases c31 : (Int.tmod t257 32) = 1
            · rw [if_pos c31] at H
              have c31b0 : ((Int.tmod t257 32) == 1) = true := beq_iff_eq.mpr c31
              have c31b1 : ((Int.tmod t257 32) != 1) = false := bne_eq_false_iff_eq.mpr c31
              clear c31
              by_cases c32 : x7_19.length < 140737488355328
              · rw [if_pos c32] at H
                have LMc32 := Aside0.mk c32
                clear c32
                obtain ⟨y275, hy275⟩ : ∃ y_ : List Int, y_ = (x7_19 ++ [0]) := ⟨_, rfl⟩
                replace H : (some (wrap64 (t259 + 1), y275)) = some (r1, r2) := by first | (rw [hy275]; with_reducible exact H) | (have H2_ := (Option.bind_some _ _).symm.trans H; rw [hy275]; with_reducible exact H2_) | (have H2_ := (Option.bind_some _ _).symm.trans H; with_reducible exact H2_) | with_reducible exact H | (rw [hy275]; exact H) | exact H
                have Ny275 := Aside0.mk hy275
                clear hy275
                simp only [Option.some.injEq, Prod.mk.injEq] at H
                obtain ⟨rfl, rfl⟩ := H
                go_wp2_with (first | ((with_reducible refine gate_builtin (b := .append) (xs := #[.tmp 62, .tmp 63]) rfl ?_); (try (refine gate_guard (by rfl) ?_; dsimp only)); at_builtin; refine Kd.R_append (Kd.int .u8) (w0 := w) w.heap.size rfl (.tmp 62) (.tmp 63) 22 5 (.int .u8 0) 1 rfl Try.underlying22 info5 rfl (by decide) (by omega) v267 x7_19 0 [.int .u8 0] (fun _ => True) (fun _ => False) rfl rfl ?aP (fun _ hk => hk.elim) ?aF ?aO ?aB ?aS ?aL ?_; (case aP => exact rfl); (case aB => exact (by repeat (first | (with_reducible first | exact HB.out | apply below_alloc | apply pw_below_drewN | apply below_drew1) | exact HB.out))); (case aF => exact (fun _ _ => trivial)); (case aO => exact (by (with_reducible repeat (first | apply Kd.R_alloc | apply Kd.R_drewN | apply Kd.R_drew)); exact HO_7.out)); (case aS => exact (below_size (by repeat (first | (with_reducible first | exact HB.out | apply below_alloc | apply pw_below_drewN | apply below_drew1) | exact HB.out)))); (case aL => have := LMc32.out; omega); intro v276 w33 ho hb hg hat; rw [← Ny275.out] at ho; have n0_ := Aside0.mk (hb); have n1_ := Aside0.mk (ho); clear HB; clear HO_7; have HB := n0_; have HO277 := n1_; clear n0_ n1_; clear ho hb hg hat))
                go_ret2
                exact ⟨_, by first | rfl | (simp [errW_none, errW_some] <;> rfl) | (simp [*, errW_none, errW_some] <;> rfl), by (with_reducible repeat (first | apply Kd.R_alloc | apply Kd.R_drewN | apply Kd.R_drew)); exact HO277.out, by repeat (first | (with_reducible first | exact HB.out | apply below_alloc | apply pw_below_drewN | apply below_drew1) | exact HB.out)⟩
              · rw [if_neg c32] at H
                exact absurd H (by simp)
            · rw [if_neg c31] at H
              have c31b0 : ((Int.tmod t257 32) == 1) = false := beq_eq_false_iff_ne.mpr c31
              have c31b1 : ((Int.tmod t257 32) != 1) = true := bne_iff_ne.mpr c31
              simp only [Option.some.injEq, Prod.mk.injEq] at H
              obtain ⟨rfl, rfl⟩ := H
              go_wp2
              go_ret2
              exact ⟨_, by first | rfl | (simp [errW_none, errW_some] <;> rfl) | (simp [*, errW_none, errW_some] <;> rfl), by (with_reducible repeat (first | apply Kd.R_alloc | apply Kd.R_drewN | apply Kd.R_drew)); exact HO_7.out, by repeat (first | (with_reducible first | exact HB.out | apply below_alloc | apply pw_below_drewN | apply below_drew1) | exact HB.out)⟩
          · rw [if_neg c30] at H
            have c30b0 : ((Int.tmod t257 16) == 2) = false := beq_eq_false_iff_ne.mpr c30
            have c30b1 : ((Int.tmod t257 16) != 2) = true := bne_iff_ne.mpr c30
            by_cases c34 : (Int.tmod t257 32) = 1
            · rw [if_pos c34] at H
              have c34b0 : ((Int.tmod t257 32) == 1) = true := beq_iff_eq.mpr c34
              have c34b1 : ((Int.tmod t257 32) != 1) = false := bne_eq_false_iff_eq.mpr c34
              clear c34
              by_cases c35 : x7_19.length < 140737488355328
              · rw [if_pos c35] at H
                have LMc35 := Aside0.mk c35
                clear c35
                obtain ⟨y278, hy278⟩ : ∃ y_ : List Int, y_ = (x7_19 ++ [0]) := ⟨_, rfl⟩
                replace H : (some (t259, y278)) = some (r1, r2) := by first | (rw [hy278]; with_reducible exact H) | (have H2_ := (Option.bind_some _ _).symm.trans H; rw [hy278]; with_reducible exact H2_) | (have H2_ := (Option.bind_some _ _).symm.trans H; with_reducible exact H2_) | with_reducible exact H | (rw [hy278]; exact H) | exact H
                have Ny278 := Aside0.mk hy278
                clear hy278
                simp only [Option.some.injEq, Prod.mk.injEq] at H
                obtain ⟨rfl, rfl⟩ := H
                go_wp2_with (first | ((with_reducible refine gate_builtin (b := .append) (xs := #[.tmp 62, .tmp 63]) rfl ?_); (try (refine gate_guard (by rfl) ?_; dsimp only)); at_builtin; refine Kd.R_append (Kd.int .u8) (w0 := w) w.heap.size rfl (.tmp 62) (.tmp 63) 22 5 (.int .u8 0) 1 rfl Try.underlying22 info5 rfl (by decide) (by omega) v267 x7_19 0 [.int .u8 0] (fun _ => True) (fun _ => False) rfl rfl ?aP (fun _ hk => hk.elim) ?aF ?aO ?aB ?aS ?aL ?_; (case aP => exact rfl); (case aB => exact (by repeat (first | (with_reducible first | exact HB.out | apply below_alloc | apply pw_below_drewN | apply below_drew1) | exact HB.out))); (case aF => exact (fun _ _ => trivial)); (case aO => exact (by (with_reducible repeat (first | apply Kd.R_alloc | apply Kd.R_drewN | apply Kd.R_drew)); exact HO_7.out)); (case aS => exact (below_size (by repeat (first | (with_reducible first | exact HB.out | apply below_alloc | apply pw_below_drewN | apply below_drew1) | exact HB.out)))); (case aL => have := LMc35.out; omega); intro v279 w36 ho hb hg hat; rw [← Ny278.out] at ho; have n0_ := Aside0.mk (hb); have n1_ := Aside0.mk (ho); clear HB; clear HO_7; have HB := n0_; have HO280 := n1_; clear n0_ n1_; clear ho hb hg hat))
                go_ret2
                exact ⟨_, by first | rfl | (simp [errW_none, errW_some] <;> rfl) | (simp [*, errW_none, errW_some] <;> rfl), by (with_reducible repeat (first | apply Kd.R_alloc | apply Kd.R_drewN | apply Kd.R_drew)); exact HO280.out, by repeat (first | (with_reducible first | exact HB.out | apply below_alloc | apply pw_below_drewN | apply below_drew1) | exact HB.out)⟩
              · rw [if_neg c35] at H
                exact absurd H (by simp)
            · rw [if_neg c34] at H
              have c34b0 : ((Int.tmod t257 32) == 1) = false := beq_eq_false_iff_ne.mpr c34
              have c34b1 : ((Int.tmod t257 32) != 1) = true := bne_iff_ne.mpr c34
              simp only [Option.some.injEq, Prod.mk.injEq] at H
              obtain ⟨rfl, rfl⟩ := H
              go_wp2
              go_ret2
              exact ⟨_, by first | rfl | (simp [errW_none, errW_some] <;> rfl) | (simp [*, errW_none, errW_some] <;> rfl), by (with_reducible repeat (first | apply Kd.R_alloc | apply Kd.R_drewN | apply Kd.R_drew)); exact HO_7.out, by repeat (first | (with_reducible first | exact HB.out | apply below_alloc | apply pw_below_drewN | apply below_drew1) | exact HB.out)⟩

end Go.Proofs.Ytlopmffdebhpfaa.G

/-! ## Base -/
namespace Go.Proofs.Ytlopmffdebhpfaa.G
open Go.RowKit Go.Proofs.YtlopmffdebhpfaaW.PrintWords Go.Proofs.YtlopmffdebhpfaaW.PrintLast Go.Proofs.YtlopmffdebhpfaaW.PrintMore

/-- ys laid over xs from place o on. -/
def spl (xs : List Int) (o : Nat) (ys : List Int) : List Int := xs.take o ++ ys ++ xs.drop (o + ys.length)
theorem spl_length (xs : List Int) (o : Nat) (ys : List Int) (h : o + ys.length ≤ xs.length) : (spl xs o ys).length = xs.length := by
  simp only [spl, List.length_append, List.length_take, List.length_drop]
  omega

theorem take_splice {α : Type} (l m : List α) (n off k : Nat) (hm : m.length = k) (h1 : off + k ≤ n) (h2 : n ≤ l.length) : (l.take off ++ m ++ l.drop (off + k)).take n = l.take off ++ m ++ (l.drop (off + k)).take (n - (off + k)) := by
  have hl : (l.take off ++ m).length = off + k := by rw [List.length_append, List.length_take, hm]; omega
  rw [List.take_append, hl, List.take_of_length_le (by omega)]

theorem run_copy_at {P : Program} (t t' ty e : TypeId) (ht : P.underlying t = some (.slice e)) (hinfo : (P.info? e).map (·.size) = some 1) (W : World) {k : IntKind} {base g cap off : Nat} {ok : Nat → Prop} {xs ys : List Int} {A dA : Option Addr} {c dc : Nat}
    (HO : Kd.R (Kd.int k) e W base ok (.slice (some ⟨g, 0, none⟩) xs.length cap) xs) (HR : Kd.C (Kd.int k) W A ys.length ys) (hoff : off + ys.length ≤ xs.length) (hdA : 0 < ys.length → dA = some ⟨g, off, none⟩) :
    ∃ w1, (Builtin.copy_ #[t, t'] ty #[.slice dA (xs.length - off) dc, .slice A ys.length c]).run P W = .ok (.int .i64 (ys.length : Int)) w1 ∧
      Kd.R (Kd.int k) e w1 base ok (.slice (some ⟨g, 0, none⟩) xs.length cap) (spl xs off ys) ∧ W.grownBy w1 (some g) := by
  have hR := Kd.reads_of_C (enc := Value.int k) (d := 0) (h1 := fun _ => rfl) HR
  have hown := Kd.own_of_R HO
  rcases Nat.eq_zero_or_pos ys.length with h0 | hp
  · have hy := List.eq_nil_of_length_eq_zero h0
    subst hy
    refine ⟨W, ?_, by rw [show spl xs off [] = xs by simp [spl]]; exact HO, World.grownBy.refl W _⟩
    exact run_copy_none W t t' ty e dA A (xs.length - off) dc 0 c ht hinfo (by simp)
  · obtain ⟨ad, hA, hc⟩ := hR.2.2 hp
    rcases hown.2 with ⟨hv, _⟩ | ⟨g', cap', cur, hv, hb, hh, hnc, hcm, hcs, htake⟩
    · cases hv
    injection hv with hv1 _ hv2
    injection hv1 with hv1
    injection hv1 with hv1
    subst hv1; subst hv2
    rw [hA, hdA hp]
    have hcs1 : cur.size = cap := by omega
    have hkl : (encs (Value.int k) ys).length = ys.length := encs_length ys
    have hsrc : ∀ j u, (encs (Value.int k) ys)[j]? = some u → W.cell? (ad.add j) = some u := by
      intro j u hu
      have hj : j < ys.length := by
        have := (List.getElem?_eq_some_iff.1 hu).1
        rwa [hkl] at this
      rw [encs_get (d := 0) _ j hj] at hu
      rw [hc j hj, ← hu]
    have hr := run_copy_cells (P := P) W t t' ty e g off (xs.length - off) dc ad ys.length c (encs (Value.int k) ys) ht hinfo (by rw [hkl]; exact (Nat.min_eq_left (by omega)).symm) hsrc
      (fun j hj => by rw [cell_of_row W g _ cur e (0, 0) hh]; simp; omega) (fun j _ => blk_frozen hh _) (by intro u hu; simp only [encs, List.mem_map] at hu; obtain ⟨q, _, rfl⟩ := hu; rfl)
    obtain ⟨cur', h3, h4, h5⟩ := setCells_row (encs (Value.int k) ys) off W cur hh (by rw [hkl]; omega)
    obtain ⟨s1, s2, s3, s4⟩ := setCells_same g (encs (Value.int k) ys) off W
    refine ⟨_, by rw [hr, hkl]; rfl, Kd.R_of_own ?_ HO.1, ⟨s1, s2, s3, by rw [s4]; exact Nat.le_refl _, fun i _ hk => setCells_far _ _ i (fun he => hk (by rw [he]))⟩⟩
    have hln := spl_length xs off ys hoff
    rw [hln]
    refine ⟨by rw [encs_length, hln, Nat.mul_one], .inr ⟨g, cap, cur', rfl, hb, h3, hnc, hcm, by rw [h4, hcs], ?_⟩⟩
    rw [h5, Nat.mul_one]
    have htk : cur.toList.take xs.length = encs (Value.int k) xs := by rw [← htake, Nat.mul_one]
    have e1 : cur.toList.take off = encs (Value.int k) (xs.take off) := by
      rw [encs, List.map_take, ← encs, ← htk, List.take_take, Nat.min_eq_left (by omega)]
    have e2 : (cur.toList.drop (off + ys.length)).take (xs.length - (off + ys.length)) = encs (Value.int k) (xs.drop (off + ys.length)) := by
      rw [encs, List.map_drop, ← encs, ← htk, List.drop_take]
    have hlt : cur.toList.length = cap := by rw [Array.length_toList]; exact hcs1
    rw [hkl, take_splice cur.toList (encs (Value.int k) ys) xs.length off ys.length hkl hoff (by omega), e1, e2, spl, encs_append, encs_append]

/-- A cut of a row that begins at its block's head. -/
theorem cut_own {P : Program} (t e : TypeId) {i : TypeInfo} (ht : P.underlying t = some (.slice e)) (hi : P.info? e = some i) (hsz : i.size = 1) (g n cap m : Nat) (hm : m ≤ n) (hc : m < cap) (W : World) :
    (Instr.slice t (.slice (some ⟨g, 0, none⟩) n cap) (some (.int .i64 (m : Int))) none none).run P W = .ok (.slice (some ⟨g, m, none⟩) (n - m) (cap - m)) W := by
  have hel : P.elem t = e := by simp [Program.elem, ht]
  have hu : P.underlying t = some (.slice (P.elem t)) := by rw [hel]; exact ht
  rw [run_slice_l W t (some ⟨g, 0, none⟩) n cap hu .i64 (m : Int) (Int.natCast_nonneg _) (by omega), hel]
  have hne : ¬ cap = m := by omega
  simp [sizeOf, typeInfo, hi, hsz, sliced, Result.andThen, hne, add_plain]

section
variable {P : Program} {ops : Array Oper} {Q : Exit → Act → World → Prop}
/-- copy as a step of a region that draws its order. -/
theorem copy_step {oi : Oper} {N : Option Tmp} {a : Act} {w w1 : World} {K : Act → World → Prop} (hw : Region.wanted oi (yielded ops a.tmps) = true) (hN : oi.dst = N) (s x : Operand) (t t' : TypeId)
    (ho : oi.op = .call { callee := .builtin .copy, args := #[s, x], argTypes := #[t, t'] }) (dv sv n : Value) (hs : a.eval s = dv) (hx : a.eval x = sv) (hr : (Builtin.copy_ #[t, t'] oi.type #[dv, sv]).run P w = .ok n w1) (h : K (a.put N n) w1) :
    if Region.wanted oi (yielded ops a.tmps) = true then Oper.wp P oi a w K Q else K (a.put N undef) w := by
  refine value_ hw hN ?_ h
  unfold execOp
  simp only [ho, resolve, invoke, builtin, Sem.run_bind, Sem.run_pure, Result.andThen_ok, List.map_toArray, List.map_cons, List.map_nil, hs, hx, hr]
/-- copy in a plain region. -/
theorem copy_list {rest : List Oper} {o : Oper} {a : Act} {W w1 : World} (hgd : o.guard = none) (s x : Operand) (t t' : TypeId) (ho : o.op = .call { callee := .builtin .copy, args := #[s, x], argTypes := #[t, t'] })
    (dv sv n : Value) (hs : a.eval s = dv) (hx : a.eval x = sv) (hr : (Builtin.copy_ #[t, t'] o.type #[dv, sv]).run P W = .ok n w1) (h : wpList P ops Q rest (a.put o.dst n) w1) : wpList P ops Q (o :: rest) a W := by
  refine wpList_plain hgd fun K hK => ?_
  unfold Oper.wp execOp
  simp only [ho, resolve, invoke, builtin, Sem.run_bind, Sem.run_pure, Result.andThen_ok, List.map_toArray, List.map_cons, List.map_nil, hs, hx, hr]
  exact hK _ _ h
end
end Go.Proofs.Ytlopmffdebhpfaa.G

/-! ## Blk -/
namespace Go.Proofs.Ytlopmffdebhpfaa.G
open Go.RowKit Go.Proofs.YtlopmffdebhpfaaW.PrintWords Go.Proofs.YtlopmffdebhpfaaW.PrintLast Go.Proofs.YtlopmffdebhpfaaW.PrintMore

theorem run_store_blk {P : Program} {W : World} {g : Nat} {e : TypeId} {cur : Array Value} (t : TypeId) (u : Value) (cs' : Array Value) (o : Nat) (seg : List Value) (hh : W.heap[g]? = some (.cells cur e (0, 0))) (hu : u.cells.toList = seg) (ht : (P.info? t).map (·.size) = some seg.length)
    (hfit : o + seg.length ≤ cur.size) (h1 : seg.all (fun q => q.oneCell') = true) (hcs : cs' = (cur.toList.take o ++ seg ++ cur.toList.drop (o + seg.length)).toArray) :
    ∃ w1, (Instr.storeAt t (.pointer (some ⟨g, o, none⟩)) u).run P W = .ok () w1 ∧ w1.heap[g]? = some (.cells cs' e (0, 0)) ∧ W.grownBy w1 (some g) := by
  refine ⟨_, run_store_run t u seg hh hu ht hfit (fun q hq => by simpa using List.all_eq_true.1 h1 q hq), ?_, ?_⟩
  · obtain ⟨cur', h3, h4, h5⟩ := setCells_row seg o W cur hh hfit
    rw [h3]
    have : cur' = cs' := by
      apply Array.ext'
      rw [h5, hcs]
    rw [this]
  · obtain ⟨s1, s2, s3, s4⟩ := setCells_same g seg o W
    exact ⟨s1, s2, s3, by rw [s4]; exact Nat.le_refl _, fun k _ hk => setCells_far _ _ k (fun he => hk (by rw [he]))⟩

section
variable {P : Program} {ops : Array Oper} {rest : List Oper} {o : Oper} {a : Act} {Q : Exit → Act → World → Prop}
/-- In a plain region. -/
theorem store_blk {W : World} (hgd : o.guard = none) (hN : o.dst = none) (t : TypeId) (p x : Operand) (ho : o.op = .store t p x) {g off : Nat} {u : Value} (cs' : Array Value) (hp : a.eval p = .pointer (some ⟨g, off, none⟩)) (hx : a.eval x = u)
    {e : TypeId} {cur : Array Value} (hh : W.heap[g]? = some (.cells cur e (0, 0))) (seg : List Value) (hu : u.cells.toList = seg) (ht : (P.info? t).map (·.size) = some seg.length)
    (hfit : off + seg.length ≤ cur.size) (h1 : seg.all (fun q => q.oneCell') = true) (hcs : cs' = (cur.toList.take off ++ seg ++ cur.toList.drop (off + seg.length)).toArray)
    (h : ∀ w1, w1.heap[g]? = some (.cells cs' e (0, 0)) → W.grownBy w1 (some g) → wpList P ops Q rest a w1) : wpList P ops Q (o :: rest) a W := by
  obtain ⟨w1, hr, h2, h3⟩ := run_store_blk (P := P) t u cs' off seg hh hu ht hfit h1 hcs
  refine wpList_plain hgd fun K hK => ?_
  unfold Oper.wp execOp
  simp only [ho, hp, hx, Sem.run_bind, Sem.run_pure, Result.andThen_ok, hr]
  show K (a.put o.dst undef) w1
  rw [hN]
  exact hK _ _ (h _ h2 h3)
/-- In a region that draws its order. -/
theorem store_blk_step {W : World} {K : Act → World → Prop} (hw : Region.wanted o (yielded ops a.tmps) = true) (hN : o.dst = none) (t : TypeId) (p x : Operand) (ho : o.op = .store t p x) {g off : Nat} {u : Value} (cs' : Array Value) (hp : a.eval p = .pointer (some ⟨g, off, none⟩)) (hx : a.eval x = u)
    {e : TypeId} {cur : Array Value} (hh : W.heap[g]? = some (.cells cur e (0, 0))) (seg : List Value) (hu : u.cells.toList = seg) (ht : (P.info? t).map (·.size) = some seg.length)
    (hfit : off + seg.length ≤ cur.size) (h1 : seg.all (fun q => q.oneCell') = true) (hcs : cs' = (cur.toList.take off ++ seg ++ cur.toList.drop (off + seg.length)).toArray)
    (h : ∀ w1, w1.heap[g]? = some (.cells cs' e (0, 0)) → W.grownBy w1 (some g) → K a w1) : if Region.wanted o (yielded ops a.tmps) = true then Oper.wp P o a W K Q else K (a.put none undef) W := by
  obtain ⟨w1, hr, h2, h3⟩ := run_store_blk (P := P) t u cs' off seg hh hu ht hfit h1 hcs
  rw [if_pos hw]
  unfold Oper.wp execOp
  simp only [ho, hp, hx, Sem.run_bind, Sem.run_pure, Result.andThen_ok, hr]
  show K (a.put o.dst undef) w1
  rw [hN]
  exact h _ h2 h3
end
end Go.Proofs.Ytlopmffdebhpfaa.G

/-! ## G135 -/
namespace Go.Proofs.Ytlopmffdebhpfaa.G
open Go.RowKit Go.Proofs.YtlopmffdebhpfaaW.PrintWords Go.Proofs.YtlopmffdebhpfaaW.PrintLast Go.Proofs.YtlopmffdebhpfaaW.PrintMore
attribute [local go_sem] max2_int min2_int max_two min_two max_three min_three max_four min_four
set_option linter.unusedVariables false
set_option linter.unusedSimpArgs false

/-! ### impl_low: function 135 -/
def impl_low.l0 : Nat → Int → List Int → Int → Int → Option (List Int)
  | 0, _, _, _, _ => none
  | k + 1, x0, x5, x10, x11 => if x11 < x10 then (if 0 ≤ (wrap64 (8 * x11)) then (if 0 ≤ x11 then (if x11 < (x5.length : Int) then (impl_low.l0 k x0 (x5.set (x11 : Int).toNat ((shr .i64 x0 (wrap64 (8 * x11))) % 256)) x10 (wrap64 (x11 + 1))) else (none)) else (none)) else (none)) else (some x5)
def impl_low.f (k : Nat) (a0 : Int) (a1 : Int) : Option (List Int) := if 0 ≤ a1 then (if (a1 : Int).toNat ≤ 281474976710656 then ((some (List.replicate (a1 : Int).toNat 0 : List Int)).bind fun y670 => (impl_low.l0 k a0 y670 (y670.length : Int) 0)) else (none)) else (none)
set_option maxRecDepth 100000 in
theorem impl_low.mono_l : ∀ k, (∀ y0 y1 y2 y3, LeO (impl_low.l0 k y0 y1 y2 y3) (impl_low.l0 (k + 1) y0 y1 y2 y3))
  | 0 => fun _ _ _ _ r h => by simp [impl_low.l0] at h
  | k + 1 => by
    have ih0 := impl_low.mono_l k
    · intro y0 y1 y2 y3
      unfold impl_low.l0
      repeat' first
      | (with_reducible exact ih0 _ _ _ _)
      | (with_reducible exact LeO.refl _)
      | (with_reducible exact LeO.none _)
      | (with_reducible refine LeO.ite ?_ ?_)
      | (with_reducible refine LeO.bind ?_ (fun _ => ?_))
      | exact ih0 _ _ _ _
      | exact LeO.none _
      | refine LeO.ite ?_ ?_
      | refine LeO.bind ?_ (fun _ => ?_)
set_option maxRecDepth 100000 in
theorem impl_low.mono : ∀ a0 a1 k, LeO (impl_low.f k a0 a1) (impl_low.f (k + 1) a0 a1) := by
  intro a0 a1 k
  have ih0 := impl_low.mono_l k
  unfold impl_low.f
  repeat' first
      | (with_reducible exact ih0 _ _ _ _)
      | (with_reducible exact LeO.refl _)
      | (with_reducible exact LeO.none _)
      | (with_reducible refine LeO.ite ?_ ?_)
      | (with_reducible refine LeO.bind ?_ (fun _ => ?_))
      | exact ih0 _ _ _ _
      | exact LeO.none _
      | refine LeO.ite ?_ ?_
      | refine LeO.bind ?_ (fun _ => ?_)
set_option maxHeartbeats 8000000 in
set_option maxRecDepth 100000 in
theorem impl_low.calls (k : Nat) (a0 : Int) (a1 : Int) (r : List Int) (w : World) (h : impl_low.f k a0 a1 = some r) :
    Calls Try.prog 135 #[.int .i64 a0, .int .i64 a1] w fun e w' => ∃ v0_ : Value, e = .returned (v0_) ∧ Kd.R (Kd.int .u8) 5 w' w.heap.size (fun _ => True) v0_ r ∧ Below w.heap.size w w' := by
  have HB := Aside0.mk (Below.refl w.heap.size w)
  have H : (if 0 ≤ a1 then (if (a1 : Int).toNat ≤ 281474976710656 then ((some (List.replicate (a1 : Int).toNat 0 : List Int)).bind fun y670 => (impl_low.l0 k a0 y670 (y670.length : Int) 0)) else (none)) else (none)) = some r := h
  clear h
  by_cases c3 : 0 ≤ a1
  · rw [if_pos c3] at H
    have c3b0 := eq_true c3
    have c3b1 : decide (0 ≤ a1) = true := decide_eq_true c3
    clear c3
    by_cases c4 : (a1 : Int).toNat ≤ 281474976710656
    · rw [if_pos c4] at H
      have c4b0 := eq_true c4
      have c4b1 : decide ((a1 : Int).toNat ≤ 281474976710656) = true := decide_eq_true c4
      clear c4
      obtain ⟨y670, hy670⟩ : ∃ y_ : List Int, y_ = (List.replicate (a1 : Int).toNat 0) := ⟨_, rfl⟩
      replace H : (impl_low.l0 k a0 y670 (y670.length : Int) 0) = some r := by first | (rw [hy670]; with_reducible exact H) | (have H2_ := (Option.bind_some _ _).symm.trans H; rw [hy670]; with_reducible exact H2_) | (have H2_ := (Option.bind_some _ _).symm.trans H; with_reducible exact H2_) | with_reducible exact H | (rw [hy670]; exact H) | exact H
      have Ny670 := Aside0.mk hy670
      clear hy670
      have H' := Aside0.mk H
      clear H
      go_enter Try.func135, Try.ntmps135
      go_wp2_with (first | ((with_reducible refine gate_dst (N := 8) rfl ?_); refine Kd.R_make (Kd.int .u8) _ 5 rfl (N := 8) rfl 22 _ _ rfl a1 rfl rfl Try.underlying22 (.int .u8 0) 1 info5 rfl (by decide) (by omega) 0 (ok := fun _ => True) (okp := fun _ => True) rfl (fun _ hk => hk) trivial (of_decide_eq_true (by first | (with_reducible assumption) | assumption)) (Nat.le_trans (Nat.mul_le_mul_right _ (of_decide_eq_true (by first | (with_reducible assumption) | assumption) : a1.toNat ≤ 281474976710656)) (by omega)) (Below.refl _ _) (Nat.le_refl _) ?_; intro v671 w5 ho6 hb hg_ hnew_; clear hg_ hnew_; (first | rw [← Ny670.out] at ho6 | (simp only [Int.reduceToNat] at ho6; rw [← Ny670.out] at ho6)); have n0_ := Aside0.mk (Kd.R_lower ho6 (below_size (by repeat (first | (with_reducible first | exact HB.out | apply below_alloc | apply pw_below_drewN | apply below_drew1) | exact HB.out)))); have n1_ := Aside0.mk (below_step (by repeat (first | (with_reducible first | exact HB.out | apply below_alloc | apply pw_below_drewN | apply below_drew1) | exact HB.out)) hb); clear HB; have HO672 := n0_; have HB := n1_; clear n0_ n1_; clear hb ho6; obtain ⟨Ao7, co7, eo7⟩ := Kd.R_slice HO672.out; subst eo7))
      go_loopg [11] k (fun kq v11 w' => ∃ (x5_1 : List Int) (x11_1 : Int), v11 = .int .i64 x11_1 ∧ Aside0 (impl_low.l0 kq a0 x5_1 (y670.length : Int) x11_1 = some r) ∧ Aside0 (kq ≤ k) ∧ Aside0 (Kd.R (Kd.int .u8) 5 w' w.heap.size (fun _ => True) (.slice Ao7 y670.length co7) x5_1) ∧ Aside0 (Below w.heap.size w w'))
      case atStart => exact ⟨(y670), (0), (by first | rfl | (simp; done) | (simp [*]; done)), H', ⟨Nat.le_refl _⟩, ⟨by (with_reducible repeat (first | apply Kd.R_alloc | apply Kd.R_drewN | apply Kd.R_drew)); exact HO672.out⟩, ⟨by repeat (first | (with_reducible first | exact HB.out | apply below_alloc | apply pw_below_drewN | apply below_drew1) | exact HB.out)⟩⟩
      case round =>
        clear H'
        try clear c1
        try clear p2
        try clear c3
        try clear c3b0
        try clear c3b1
        try clear c4
        try clear c4b0
        try clear c4b1
        obtain ⟨x5_1, x11_1, rfl, HA, HK1, HO_5, HB⟩ := hrel
        have hl5_1 := (Kd.R_reads' HO_5.out).1
        rw [hl5_1] at HO_5
        (try simp only [hl5_1])
        cases gk with
        | zero => exact absurd HA.out (by simp [impl_low.l0])
        | succ k1 =>
          have H := HA.out
          clear HA
          simp only [impl_low.l0] at H
          by_cases c8 : x11_1 < (y670.length : Int)
          · rw [if_pos c8] at H
            have c8b0 : decide (x11_1 < (y670.length : Int)) = true := decide_eq_true c8
            clear c8
            obtain ⟨ji9, hji9⟩ : ∃ j_ : Int, (wrap64 (8 * x11_1)) = j_ := ⟨_, rfl⟩
            replace H : (if 0 ≤ (ji9) then (if 0 ≤ x11_1 then (if x11_1 < (x5_1.length : Int) then (impl_low.l0 k1 a0 (x5_1.set (x11_1 : Int).toNat ((shr .i64 a0 (ji9)) % 256)) (y670.length : Int) (wrap64 (x11_1 + 1))) else (none)) else (none)) else (none)) = some r := by first | (rw [hji9] at H; exact H) | (simp only [hji9] at H ⊢; exact H)
            have hji9w : (IntKind.i64.wrap (8 * x11_1)) = ji9 := (i64_w _).trans hji9
            by_cases c10 : 0 ≤ (ji9)
            · rw [if_pos c10] at H
              have c10b0 := eq_true c10
              have c10b1 : decide (0 ≤ (ji9)) = true := decide_eq_true c10
              clear c10
              obtain ⟨ji11, hji11⟩ : ∃ j_ : Int, (shr .i64 a0 (ji9)) = j_ := ⟨_, rfl⟩
              replace H : (if 0 ≤ x11_1 then (if x11_1 < (x5_1.length : Int) then (impl_low.l0 k1 a0 (x5_1.set (x11_1 : Int).toNat ((ji11) % 256)) (y670.length : Int) (wrap64 (x11_1 + 1))) else (none)) else (none)) = some r := by first | (rw [hji11] at H; exact H) | (simp only [hji11] at H ⊢; exact H)
              have hji11_ : (a0 / 2 ^ min (ji9).toNat 64) = ji11 := hji11
              have hji11z : (ji9) ≤ 64 → (a0 / 2 ^ (ji9).toNat) = ji11 := shr_small hji11
              by_cases c12 : 0 ≤ x11_1
              · rw [if_pos c12] at H
                have c12b0 : decide (0 ≤ x11_1) = true := decide_eq_true c12
                clear c12
                by_cases c13 : x11_1 < (x5_1.length : Int)
                · rw [if_pos c13] at H
                  have c13b0 : decide (x11_1 < (x5_1.length : Int)) = true := decide_eq_true c13
                  clear c13
                  obtain ⟨y673, hy673⟩ : ∃ y_ : List Int, y_ = (x5_1.set (x11_1 : Int).toNat ((ji11) % 256)) := ⟨_, rfl⟩
                  replace H : (impl_low.l0 k1 a0 y673 (y670.length : Int) (wrap64 (x11_1 + 1))) = some r := by first | (rw [hy673]; with_reducible exact H) | (have H2_ := (Option.bind_some _ _).symm.trans H; rw [hy673]; with_reducible exact H2_) | (have H2_ := (Option.bind_some _ _).symm.trans H; with_reducible exact H2_) | with_reducible exact H | (rw [hy673]; exact H) | exact H
                  have Ny673 := Aside0.mk hy673
                  clear hy673
                  have H' := Aside0.mk H
                  clear H
                  have p14 : 0 ≤ (x11_1 : Int) := of_decide_eq_true (by first | (with_reducible assumption) | assumption)
                  have q14 : (x11_1 : Int) < ((x5_1.length : Int) : Int) := of_decide_eq_true (by first | (with_reducible assumption) | assumption)
                  obtain ⟨go14, co14, eo14, gb14, gl14, cl14, HG14⟩ := Kd.R_form HO_5.out (by omega)
                  (first | cases eo14 | (injection eo14 with ea_ en_ ec_; (first | subst ea_ | (injection ea_ with ea_; subst ea_)); subst ec_; clear en_))
                  have GB14 := Aside0.mk gb14
                  have GG14 := Aside0.mk HG14
                  clear gb14 gl14 HG14
                  obtain ⟨hx14_0, hf14_0⟩ := Kd.R_celln 0 HO_5.out (x11_1 : Int) p14 q14
                  replace p14 := eq_true p14
                  replace q14 := eq_true q14
                  have HP15 := Kd.R_putg HO_5.out (x11_1 : Int) ((ji11) % 256)
                  go_wp2_with (first | ((with_reducible refine gate_store (t := 5) (p := 21) rfl ?_); refine store_event (t := 5) (p := 21) (v := ?vo_w16) (w1 := (wr.setCell ⟨go14, (x11_1 : Int).toNat, none⟩ (.int .u8 ((ji11) % 256)))) ?hg ?ho ?hn ?hr ?_; (case ho => rfl); (case hg => rfl); (case hn => rfl); (case hr => first | (go_simp; done) | (go_simp; rfl)); intro w16 hw; have hg : wr.grownBy w16 (some go14) := (by rw [hw]; exact HP15.2); have hp_ : Kd.R (Kd.int .u8) 5 w16 w.heap.size (fun _ => True) (.slice (some ⟨go14, 0, none⟩) x5_1.length co7) y673 := (by rw [hw, Ny673.out]; exact HP15.1); clear HP15; have n0_ := Aside0.mk (hp_); have n1_ := Aside0.mk ((by rw [hw]; exact below_set (HB.out) GB14.out : Below w.heap.size w w16)); clear HO_5; clear HB; have HO_5 := n0_; have HB := n1_; clear n0_ n1_; clear hg hw hp_))
                  (try simp only [← hl5_1])
                  go_roundg k1
                  case measure => have := HK1.out; omega
                  case rel => exact ⟨(y673), (wrap64 (x11_1 + 1)), (by first | rfl | (simp; done) | (simp [*]; done)), H', ⟨by have := HK1.out; omega⟩, ⟨by (try simp only [hl5_1]); (with_reducible repeat (first | apply Kd.R_alloc | apply Kd.R_drewN | apply Kd.R_drew)); exact HO_5.out⟩, ⟨by repeat (first | (with_reducible first | exact HB.out | apply below_alloc | apply pw_below_drewN | apply below_drew1) | exact HB.out)⟩⟩
                · rw [if_neg c13] at H
                  exact absurd H (by simp)
              · rw [if_neg c12] at H
                exact absurd H (by simp)
            · rw [if_neg c10] at H
              exact absurd H (by simp)
          · rw [if_neg c8] at H
            have c8b0 : decide (x11_1 < (y670.length : Int)) = false := decide_eq_false c8
            rw [hl5_1] at c8b0
            clear c8
            obtain rfl := Option.some.inj H
            go_wp2
            go_ret
            exact ⟨_, by first | rfl | (simp [errW_none, errW_some] <;> rfl) | (simp [*, errW_none, errW_some] <;> rfl), by (with_reducible repeat (first | apply Kd.R_alloc | apply Kd.R_drewN | apply Kd.R_drew)); exact HO_5.out, by repeat (first | (with_reducible first | exact HB.out | apply below_alloc | apply pw_below_drewN | apply below_drew1) | exact HB.out)⟩
    · rw [if_neg c4] at H
      exact absurd H (by simp)
  · rw [if_neg c3] at H
    exact absurd H (by simp)

end Go.Proofs.Ytlopmffdebhpfaa.G

/-! ## Shelf -/
namespace Go.Proofs
open Go.Shelf
def Try.lays115_ren : Go.Shelf.Ren := ⟨fun | 115 => 131 | n => n, fun | 37 => 22 | 4 => 4 | 9 => 9 | 5 => 5 | n => n, fun | n => n⟩
theorem Try.lays115 : Go.Proofs.Lays.n115 Try.prog Try.lays115_ren := {
  mixed := by kernel_rfl
  f115 := Try.func131.trans (congrArg some (by kernel_rfl))
  t4 := Try.underlying4
  a4 := Try.isAgg4
  z4 := Try.sizeOf4
  v4 := Try.zeroValue4
  t9 := Try.underlying9
  a9 := Try.isAgg9
  z9 := Try.sizeOf9
  v9 := Try.zeroValue9
  t37 := Try.underlying22
  a37 := Try.isAgg22
  z37 := Try.sizeOf22
  v37 := Try.zeroValue22 }
open Go.Proofs Go.RowKit Go.Lib in
theorem Try.bytes_Equal_strs (v1 v2 : Value) (t1 t2 : ByteArray) (w : World) (h1 : (convert 22 9 v1).run Try.prog w = .ok (.string t1) w) (h2 : (convert 22 9 v2).run Try.prog w = .ok (.string t2) w) :
    Calls Try.prog 131 #[v1, v2] w fun e w' => e = .returned (.bool (t1.toList == t2.toList)) ∧ w' = w := Any.bytes_Equal_strs Try.lays115 v1 v2 t1 t2 w h1 h2
def Try.laysSlK4_ren : Go.Shelf.Ren := ⟨fun | 4 => 72 | n => n, fun | 22 => 22 | 4 => 4 | 5 => 5 | n => n, fun | n => n⟩
theorem Try.laysSlK4 : Go.Proofs.SlLaysK.n4 Try.prog Try.laysSlK4_ren := {
  mixed := by kernel_rfl
  f4 := Try.func72.trans (congrArg some (by kernel_rfl))
  t4 := Try.underlying4
  a4 := Try.isAgg4
  z4 := Try.sizeOf4
  v4 := Try.zeroValue4
  t22 := Try.underlying22
  a22 := Try.isAgg22
  z22 := Try.sizeOf22
  v22 := Try.zeroValue22
  t5 := Try.underlying5
  i5 := by kernel_rfl }
open Go.RowKit Go.Lib in
theorem Try.bytes_Clone_at (a : Addr) (n c : Nat) (xs : List Int) (w : World) (hx : xs.length = n) (hbig : n ≤ 140737488355328) (hc : ∀ i, i < n → w.cell? (a.add i) = some (.int .u8 (xs.getD i 0))) :
    Calls Try.prog 72 #[.slice (some a) n c] w fun e w' => ∃ v', e = .returned v' ∧ w'.ownsRow w.heap.size 5 1 v' n (xs.map (Value.int .u8)) ∧ v' ≠ .slice none 0 0 ∧ Below w.heap.size w w' := Any.bytes_Clone_at Try.laysSlK4 a n c xs w hx hbig hc
open Go.RowKit Go.Lib in
theorem Try.bytes_Clone_nil (n c : Nat) (w : World) :
    Calls Try.prog 72 #[.slice none n c] w fun e w' => e = .returned (.slice none 0 0) ∧ w' = w := Any.bytes_Clone_nil Try.laysSlK4 n c w
def Try.laysSlJ14_ren : Go.Shelf.Ren := ⟨fun | 14 => 153 | 15 => 170 | n => n, fun | 26 => 36 | 22 => 22 | 3 => 3 | 4 => 4 | 0 => 0 | 9 => 9 | 20 => 20 | 5 => 5 | n => n, fun | n => n⟩
theorem Try.laysSlJ14 : Go.Proofs.SlLaysJ.n14 Try.prog Try.laysSlJ14_ren := {
  mixed := by kernel_rfl
  f14 := Try.func153.trans (congrArg some (by kernel_rfl))
  f15 := Try.func170.trans (congrArg some (by kernel_rfl))
  t0 := Try.underlying0
  a0 := Try.isAgg0
  z0 := Try.sizeOf0
  v0 := Try.zeroValue0
  t3 := Try.underlying3
  a3 := Try.isAgg3
  z3 := Try.sizeOf3
  v3 := Try.zeroValue3
  t4 := Try.underlying4
  a4 := Try.isAgg4
  z4 := Try.sizeOf4
  v4 := Try.zeroValue4
  t9 := Try.underlying9
  a9 := Try.isAgg9
  z9 := Try.sizeOf9
  v9 := Try.zeroValue9
  t20 := Try.underlying20
  a20 := Try.isAgg20
  z20 := Try.sizeOf20
  v20 := Try.zeroValue20
  t22 := Try.underlying22
  a22 := Try.isAgg22
  z22 := Try.sizeOf22
  v22 := Try.zeroValue22
  t26 := Try.underlying36
  a26 := Try.isAgg36
  z26 := Try.sizeOf36
  v26 := Try.zeroValue36
  t5 := Try.underlying5
  z5 := Try.sizeOf5
  i5 := by kernel_rfl }
open Go.RowKit Go.Lib in
theorem Try.bytes_Join_many (b o n c : Nat) (vs : List Value) (ls : List (List UInt8)) (sv : Value) (sep : List UInt8) (w : World) (hn : ls.length = n) (h2 : 2 ≤ n) (hP : Lib.PartsAt w ⟨b, o, none⟩ vs ls) (hcap : n ≤ c) (hS : Lib.HoldsBytes w sv sep) (hn47 : n ≤ 140737488355328) (hlen : Lib.lens ls + sep.length * (n - 1) ≤ 140737488355328) :
    Calls Try.prog 153 #[.slice (some ⟨b, o, none⟩) n c, sv] w fun e w' => ∃ v', e = .returned v' ∧ Lib.FreshBytes w.heap.size w' v' (Lib.join ls sep) ∧ Below w.heap.size w w' := Any.bytes_Join_many Try.laysSlJ14 b o n c vs ls sv sep w hn h2 hP hcap hS hn47 hlen
open Go.RowKit Go.Lib in
theorem Try.bytes_Join_none (p : Option Addr) (c : Nat) (sv : Value) (w : World) :
    Calls Try.prog 153 #[.slice p 0 c, sv] w fun e w' => e = .returned (.slice (some ⟨w.heap.size, 0, none⟩) 0 0) ∧ w' = w.alloc (.cells #[] 5) := Any.bytes_Join_none Try.laysSlJ14 p c sv w
open Go.RowKit Go.Lib in
theorem Try.bytes_Join_one (b o c : Nat) (ad0 : Addr) (c0 : Nat) (l0 : List UInt8) (sv : Value) (w : World) (hcell : w.cell? ⟨b, o, none⟩ = some (.slice (some ad0) l0.length c0)) (hc : ∀ (i : Nat) x, l0[i]? = some x → w.cell? (ad0.add i) = some (.int .u8 (x.toNat : Int))) (h0 : 0 < l0.length) (hs : l0.length ≤ 140737488355328) :
    Calls Try.prog 153 #[.slice (some ⟨b, o, none⟩) 1 c, sv] w fun e w' => ∃ v', e = .returned v' ∧ Lib.FreshBytes w.heap.size w' v' l0 ∧ Below w.heap.size w w' := Any.bytes_Join_one Try.laysSlJ14 b o c ad0 c0 l0 sv w hcell hc h0 hs
open Go.RowKit Go.Lib in
theorem Try.bytes_Join_one_empty (b o c : Nat) (p0 : Option Addr) (c0 : Nat) (sv : Value) (w : World) (hcell : w.cell? ⟨b, o, none⟩ = some (.slice p0 0 c0)) :
    Calls Try.prog 153 #[.slice (some ⟨b, o, none⟩) 1 c, sv] w fun e w' => e = .returned (.slice none 0 0) ∧ w' = w := Any.bytes_Join_one_empty Try.laysSlJ14 b o c p0 c0 sv w hcell
def Try.laysnb115_ren : Go.Shelf.Ren := ⟨fun | 115 => 131 | n => n, fun | 37 => 22 | 4 => 4 | 9 => 9 | 5 => 5 | n => n, fun | n => n⟩
theorem Try.laysnb115 : Go.Proofs.Lays.nb115 Try.prog Try.laysnb115_ren := {
  mixed := by kernel_rfl
  f115 := Try.func131.trans (congrArg some (by kernel_rfl))
  t4 := Try.underlying4
  a4 := Try.isAgg4
  z4 := Try.sizeOf4
  v4 := Try.zeroValue4
  t9 := Try.underlying9
  a9 := Try.isAgg9
  z9 := Try.sizeOf9
  v9 := Try.zeroValue9
  t37 := Try.underlying22
  a37 := Try.isAgg22
  z37 := Try.sizeOf22
  v37 := Try.zeroValue22
  t5 := Try.underlying5
  a5 := Try.isAgg5
  z5 := Try.sizeOf5
  v5 := Try.zeroValue5 }
theorem Try.bytes_Equal_all (p1 p2 : Option Addr) (n c m d : Nat) (xs ys : List Int) (w : World) (hx : xs.length = n) (hy : ys.length = m) (h1 : Lib.BytesIn w p1 n xs) (h2 : Lib.BytesIn w p2 m ys) :
    Calls Try.prog 131 #[.slice p1 n c, .slice p2 m d] w fun e w' => e = .returned (.bool (Lib.bytesOf xs == Lib.bytesOf ys)) ∧ w' = w := Any.bytes_Equal_all Try.laysnb115 p1 p2 n c m d xs ys w hx hy h1 h2
theorem Try.bytes_Equal (v1 v2 : Value) (xs ys : List Int) (w : World) (h1 : (convert 22 9 v1).run Try.prog w = .ok (.string (strOfNums xs)) w) (h2 : (convert 22 9 v2).run Try.prog w = .ok (.string (strOfNums ys)) w) :
    Calls Try.prog 131 #[v1, v2] w fun e w' => e = .returned (.bool (Lib.bytesOf xs == Lib.bytesOf ys)) ∧ w' = w := Any.bytes_Equal Try.lays115 v1 v2 xs ys w h1 h2
end Go.Proofs

/-! ## Lib1 -/
namespace Go.Proofs.Ytlopmffdebhpfaa.G
open Go.RowKit Go.Proofs.YtlopmffdebhpfaaW.PrintWords Go.Proofs.YtlopmffdebhpfaaW.PrintLast Go.Proofs.YtlopmffdebhpfaaW.PrintMore

/-- What a slice of numbers that is read holds, cell by cell. -/
theorem C_cells {k : IntKind} {w : World} {A : Option Addr} {n : Nat} {xs : List Int} (h : Kd.C (Kd.int k) w A n xs) :
    xs.length = n ∧ n ≤ 9223372036854775807 ∧ (0 < n → ∃ ad, A = some ad ∧ ∀ j x, xs[j]? = some x → w.cell? (ad.add j) = some (.int k x)) := by
  refine ⟨h.1, h.2.1, fun hn => ?_⟩
  obtain ⟨ad, e, hc⟩ := h.2.2 hn
  refine ⟨ad, e, fun j x hx => ?_⟩
  obtain ⟨c, _, hK, hcell⟩ := hc j x hx
  have hK' : c = [.int k x] := hK
  subst hK'
  have := hcell 0 _ rfl
  rwa [show (Kd.int k).sz = 1 from rfl, Nat.mul_one, Nat.add_zero] at this

theorem C_of_cells {k : IntKind} {w : World} {A : Option Addr} {xs : List Int} (hn : xs.length ≤ 9223372036854775807)
    (h : 0 < xs.length → ∃ ad, A = some ad ∧ ∀ j x, xs[j]? = some x → w.cell? (ad.add j) = some (.int k x)) : Kd.C (Kd.int k) w A xs.length xs := by
  refine ⟨rfl, hn, fun hp => ?_⟩
  obtain ⟨ad, e, hc⟩ := h hp
  refine ⟨ad, e, fun j x hx => ⟨[.int k x], rfl, rfl, fun i u hu => ?_⟩⟩
  have hi : i = 0 := by
    have := (List.getElem?_eq_some_iff.1 hu).1
    simp at this
    exact this
  subst hi
  obtain rfl : Value.int k x = u := by simpa using hu
  rw [show (Kd.int k).sz = 1 from rfl, Nat.mul_one, Nat.add_zero]
  exact hc j x hx

/-- Cells of one block tell a row that is read, as long as that block stays. -/
theorem F_of_cells {k : IntKind} {w : World} {ok : Nat → Prop} {g : Nat} {xs : List Int} (hg : ok g) (hn : xs.length ≤ 9223372036854775807)
    (hc : ∀ j x, xs[j]? = some x → w.cell? ⟨g, j, none⟩ = some (.int k x)) : Kd.F (Kd.int k) w ok (some ⟨g, 0, none⟩) xs.length xs := by
  intro W' hW
  refine C_of_cells hn (fun _ => ⟨_, rfl, fun j x hx => ?_⟩)
  rw [add_plain]
  have h1 := hc j x hx
  have hlt := World.block_lt_of_cell? w _ h1
  exact (World.cell?_of_block (w := w) (w' := W') (a := ⟨g, j, none⟩) (hW g hg hlt)).trans h1

theorem byte_back (x : Int) (h : 0 ≤ x ∧ x < 256) : ((UInt8.ofNat x.toNat).toNat : Int) = x := by
  rw [UInt8.toNat_ofNat', Nat.mod_eq_of_lt (by omega)]
  omega
theorem bytes_back : ∀ (l : List Int), (∀ x ∈ l, 0 ≤ x ∧ x < 256) → (Lib.bytesOf l).map (fun u => (u.toNat : Int)) = l
  | [], _ => rfl
  | x :: r, h => by
    have ih := bytes_back r (fun y hy => h y (List.mem_cons_of_mem _ hy))
    simp only [Lib.bytesOf, List.map_cons, List.map_map] at ih ⊢
    rw [byte_back x (h x List.mem_cons_self), ih]
theorem bytesOf_inj {l m : List Int} (hl : ∀ x ∈ l, 0 ≤ x ∧ x < 256) (hm : ∀ x ∈ m, 0 ≤ x ∧ x < 256) (h : Lib.bytesOf l = Lib.bytesOf m) : l = m := by
  rw [← bytes_back l hl, ← bytes_back m hm, h]
theorem bytesOf_flatten : ∀ (ls : List (List Int)), (ls.map Lib.bytesOf).flatten = Lib.bytesOf ls.flatten
  | [] => rfl
  | l :: r => by rw [List.map_cons, List.flatten_cons, bytesOf_flatten r, List.flatten_cons]; simp [Lib.bytesOf]
theorem join_empty : ∀ (ls : List (List UInt8)), Lib.join ls [] = ls.flatten
  | [] => rfl
  | [x] => by simp [Lib.join_one]
  | x :: y :: r => by
    have ih := join_empty (y :: r)
    unfold Lib.join at ih ⊢
    rw [List.intercalate, List.intersperse_cons_cons] at *
    simpa [List.intercalate] using ih

/-- bytes.Join at two parts or more, an empty separator, and bytes. -/
def bytes_Join.f (l0 : List (List Int)) (l1 : List Int) : Option (List Int) :=
  if 2 ≤ l0.length ∧ l1 = [] ∧ l0.length ≤ 1000000 ∧ l0.flatten.length ≤ 1000000 ∧ (∀ l ∈ l0, ∀ x ∈ l, 0 ≤ x ∧ x < 256) then some l0.flatten else none

theorem lens_bytes : ∀ (ls : List (List Int)), Lib.lens (ls.map Lib.bytesOf) = ls.flatten.length
  | [] => rfl
  | l :: r => by
    have ih := lens_bytes r
    simp only [Lib.lens, List.map_cons, List.sum_cons, List.flatten_cons, List.length_append] at ih ⊢
    rw [ih]; simp [Lib.bytesOf]

theorem bytes_Join.calls (A0 : Option Addr) (c0 : Nat) (l0 : List (List Int)) (A1 : Option Addr) (c1 : Nat) (l1 : List Int) (r : List Int) (w : World) (hr0 : Kd.C (Kd.slice 5 (Kd.int .u8)) w A0 l0.length l0) (hc0 : l0.length ≤ c0)
    (hr1 : Kd.C (Kd.int .u8) w A1 l1.length l1) (hc1 : l1.length ≤ c1) (h : bytes_Join.f l0 l1 = some r) :
    Calls Try.prog 153 #[.slice A0 l0.length c0, .slice A1 l1.length c1] w fun e w' => ∃ v0_ : Value, e = .returned (v0_) ∧ Kd.V (Kd.int .u8) 5 w' w.heap.size (fun k_ => (w.heap.size ≤ k_)) v0_ r ∧ Below w.heap.size w w' := by
  unfold bytes_Join.f at h
  split at h
  case isFalse => cases h
  rename_i hh
  obtain ⟨h2, rfl, hn, hl, hb⟩ := hh
  obtain rfl := Option.some.inj h
  obtain ⟨ad, rfl, hcells⟩ := hr0.2.2 (by omega)
  have hsl : ∀ j l, l0[j]? = some l → ∃ A c, w.cell? (ad.add j) = some (.slice A l.length c) ∧ l.length ≤ c ∧ Kd.C (Kd.int .u8) w A l.length l := by
    intro j l hj
    obtain ⟨c, _, ⟨A, c', hc', hlc, hC⟩, hcell⟩ := hcells j l hj
    subst hc'
    have := hcell 0 _ rfl
    rw [show (Kd.slice 5 (Kd.int .u8)).sz = 1 from rfl, Nat.mul_one, Nat.add_zero] at this
    exact ⟨A, c', this, hlc, hC⟩
  have hspot : ad.spot = none := by
    obtain ⟨l, hj⟩ : ∃ l, l0[0]? = some l := ⟨l0[0]'(by omega), by simp⟩
    obtain ⟨A, c, hcell, _⟩ := hsl 0 l hj
    have e : ad.add 0 = ad := by simp [Addr.add]
    rw [e] at hcell
    exact World.cell?_spot hcell
  obtain ⟨b, o, sp⟩ := ad
  simp only at hspot
  subst hspot
  let vs : List Value := (List.range l0.length).map fun j => (w.cell? ((⟨b, o, none⟩ : Addr).add j)).getD undef
  have hvs : ∀ j v, vs[j]? = some v → ∃ l, l0[j]? = some l ∧ ∃ A c, v = .slice A l.length c ∧ w.cell? ((⟨b, o, none⟩ : Addr).add j) = some v ∧ Kd.C (Kd.int .u8) w A l.length l := by
    intro j v hv
    have hj : j < l0.length := by
      have := (List.getElem?_eq_some_iff.1 hv).1
      simpa [vs] using this
    obtain ⟨A, c, hcell, _, hC⟩ := hsl j l0[j] (List.getElem?_eq_getElem hj)
    have hv' : v = .slice A l0[j].length c := by
      simp only [vs, List.getElem?_map, List.getElem?_range hj, Option.map_some, hcell, Option.getD_some, Option.some.injEq] at hv
      exact hv.symm
    exact ⟨l0[j], List.getElem?_eq_getElem hj, A, c, hv', by rw [hv']; exact hcell, hC⟩
  have hP : Lib.PartsAt w ⟨b, o, none⟩ vs (l0.map Lib.bytesOf) := by
    refine ⟨by simp [vs], fun j v hv => ?_, fun j v l hv hl' => ?_⟩
    · obtain ⟨_, _, _, _, _, hcell, _⟩ := hvs j v hv
      exact hcell
    · obtain ⟨m, hm, A, c, rfl, _, hC⟩ := hvs j v hv
      have hml : Lib.bytesOf m = l := by
        rw [List.getElem?_map, hm] at hl'
        simpa using hl'
      subst hml
      obtain ⟨_, _, hcs⟩ := C_cells hC
      have hmem : m ∈ l0 := List.mem_of_getElem? hm
      refine ⟨A, c, by simp [Lib.bytesOf], fun hA => ?_, fun a ha i x hx => ?_⟩
      · rcases Nat.eq_zero_or_pos m.length with h0 | hp
        · rw [List.eq_nil_of_length_eq_zero h0]; rfl
        · obtain ⟨ad', e, _⟩ := hcs hp
          rw [hA] at e; cases e
      · subst ha
        have hi : i < m.length := by
          have := (List.getElem?_eq_some_iff.1 hx).1
          simpa [Lib.bytesOf] using this
        obtain ⟨ad', e, hcc⟩ := hcs (by omega)
        obtain rfl := Option.some.inj e
        rw [hcc i m[i] (List.getElem?_eq_getElem hi)]
        have hxe : x = UInt8.ofNat m[i].toNat := by
          simp only [Lib.bytesOf, List.getElem?_map, List.getElem?_eq_getElem hi, Option.map_some, Option.some.injEq] at hx
          exact hx.symm
        rw [hxe, byte_back _ (hb m hmem _ (List.getElem_mem hi))]
  have hS : Lib.HoldsBytes w (.slice A1 ([] : List Int).length c1) [] := ⟨A1, c1, rfl, fun _ => rfl, fun a _ i x hx => by simp at hx⟩
  refine (Try.bytes_Join_many b o l0.length c0 vs (l0.map Lib.bytesOf) _ [] w (by simp) h2 hP hc0 hS (by omega) (by rw [lens_bytes, List.length_nil, Nat.zero_mul]; omega)).mono ?_
  rintro e w' ⟨v', rfl, hF, hbel⟩
  refine ⟨v', rfl, ?_, hbel⟩
  rw [join_empty, bytesOf_flatten] at hF
  obtain ⟨g, cap, zs, rfl, hg, hlc, _, hz, hzb, hze, hcell, _⟩ := hF
  have hbf : ∀ x ∈ l0.flatten, 0 ≤ x ∧ x < 256 := fun x hx => by
    obtain ⟨l, hl1, hl2⟩ := List.mem_flatten.1 hx
    exact hb l hl1 x hl2
  have hlen : (Lib.bytesOf l0.flatten).length = l0.flatten.length := by rw [Lib.bytesOf, List.length_map]
  rw [hlen] at hlc hze ⊢
  have hzt : zs.take l0.flatten.length = l0.flatten := bytesOf_inj (fun x hx => hzb x (List.mem_of_mem_take hx)) hbf hze
  refine Kd.V_mk hlc (F_of_cells hg (by omega) (fun j x hx => ?_))
  have hj : j < l0.flatten.length := (List.getElem?_eq_some_iff.1 hx).1
  rw [hcell j (by omega)]
  rw [← hzt, List.getElem?_take, if_pos hj] at hx
  rw [List.getD_eq_getElem?_getD, hx]
  rfl

/-- bytes.Clone. -/
def bytes_Clone.f (l0 : List Int) : Option (List Int) := if l0.length ≤ 140737488355328 then some l0 else none

theorem bytes_Clone.calls (A0 : Option Addr) (c0 : Nat) (l0 : List Int) (r : List Int) (w : World) (hr0 : Kd.C (Kd.int .u8) w A0 l0.length l0) (_hc0 : l0.length ≤ c0) (h : bytes_Clone.f l0 = some r) :
    Calls Try.prog 72 #[.slice A0 l0.length c0] w fun e w' => ∃ v0_ : Value, e = .returned (v0_) ∧ Kd.R (Kd.int .u8) 5 w' w.heap.size (fun _ => True) v0_ r ∧ Below w.heap.size w w' := by
  unfold bytes_Clone.f at h
  split at h
  case isFalse => cases h
  rename_i hb
  obtain rfl := Option.some.inj h
  obtain ⟨_, _, hcs⟩ := C_cells hr0
  cases A0 with
  | none =>
    have h0 : l0.length = 0 := by
      rcases Nat.eq_zero_or_pos l0.length with h0 | hp
      · exact h0
      · obtain ⟨_, e, _⟩ := hcs hp
        cases e
    refine (Try.bytes_Clone_nil l0.length c0 w).mono ?_
    rintro e w' ⟨rfl, rfl⟩
    rw [List.eq_nil_of_length_eq_zero h0]
    exact ⟨_, rfl, Kd.R_nil _ _ _ _ _, Below.refl _ _⟩
  | some ad =>
    refine (Try.bytes_Clone_at ad l0.length c0 l0 w rfl hb (fun i hi => ?_)).mono ?_
    · obtain ⟨ad', e, hcc⟩ := hcs (by omega)
      obtain rfl := Option.some.inj e
      rw [hcc i l0[i] (List.getElem?_eq_getElem hi)]
      simp [List.getD_eq_getElem?_getD, List.getElem?_eq_getElem hi]
    · rintro e w' ⟨v', rfl, ho, _, hbel⟩
      exact ⟨v', rfl, Kd.R_of_own ho (fun _ _ => trivial), hbel⟩
end Go.Proofs.Ytlopmffdebhpfaa.G

/-! ## Head -/
namespace Go.Proofs.Ytlopmffdebhpfaa.G
open Go.RowKit Go.Proofs.YtlopmffdebhpfaaW.PrintWords Go.Proofs.YtlopmffdebhpfaaW.PrintLast Go.Proofs.YtlopmffdebhpfaaW.PrintMore
attribute [local go_sem] max2_int min2_int max_two min_two max_three min_three max_four min_four
set_option linter.unusedVariables false
set_option linter.unusedSimpArgs false

/-! ### impl_head_bytes: function 134 -/
def impl_head_bytes.f (k : Nat) (a0_0 : Int) (a0_1 : Int) (a0_2 : Int) : Option (List Int) := (impl_low.f k a0_0 4).bind fun t731 => ((impl_low.f k a0_2 2).bind fun t737 => ((impl_low.f k 0 4).bind fun t740 => ((bytes_Join.f (([t731, (([(a0_1) % 256, 0] : List Int)), t737, t740] : List (List Int))) ([] : List Int)).bind fun t746 => (some t746))))
set_option maxRecDepth 100000 in
theorem impl_head_bytes.mono : ∀ a0 a1 a2 k, LeO (impl_head_bytes.f k a0 a1 a2) (impl_head_bytes.f (k + 1) a0 a1 a2) := by
  intro a0 a1 a2 k
  unfold impl_head_bytes.f
  repeat' first
      | (with_reducible exact impl_low.mono _ _ _)
      | (with_reducible exact LeO.refl _)
      | (with_reducible exact LeO.none _)
      | (with_reducible refine LeO.ite ?_ ?_)
      | (with_reducible refine LeO.bind ?_ (fun _ => ?_))
      | exact impl_low.mono _ _ _
      | exact LeO.none _
      | refine LeO.ite ?_ ?_
      | refine LeO.bind ?_ (fun _ => ?_)
def impl_head_bytes.T1 : Bool × List (List Nat × List Nat) := (true, [([], []), ([0], [0]), ([1], [1]), ([], []), ([3], [3]), ([4], [4]), ([5], [5]), ([], []), ([7], [7]), ([8, 2], [8]), ([9], []), ([2, 6, 9, 10], [2, 6, 9, 10]), ([11, 10], [11]), ([12, 12, 0, 1, 2, 3, 4, 5, 6, 7, 8, 9, 10, 11, 12], [12])])
def impl_head_bytes.B1 : List Nat := [0, 1, 3, 0, 8, 24, 56, 0, 128, 391, 903, 2047, 4095, 8191]
theorem impl_head_bytes.tab1 : rtab .any (opsOf Try.f134 1) = impl_head_bytes.T1 := by kernel_rfl
theorem impl_head_bytes.bits1 : waitsOk impl_head_bytes.T1.2 impl_head_bytes.B1 = true := by kernel_rfl
set_option maxHeartbeats 8000000 in
set_option maxRecDepth 100000 in
theorem impl_head_bytes.calls (k : Nat) (a0_0 : Int) (a0_1 : Int) (a0_2 : Int) (r : List Int) (w : World) (h : impl_head_bytes.f k a0_0 a0_1 a0_2 = some r) :
    Calls Try.prog 134 #[.agg #[.int .i64 a0_0, .int .i64 a0_1, .int .i64 a0_2]] w fun e w' => ∃ v0_ : Value, e = .returned (v0_) ∧ Kd.V (Kd.int .u8) 5 w' w.heap.size (fun k_ => w.heap.size ≤ k_) v0_ r ∧ Below w.heap.size w w' := by
  have hu100 := Try.underlying100
  have HB := Aside0.mk (Below.refl w.heap.size w)
  have H : ((impl_low.f k a0_0 4).bind fun t731 => ((impl_low.f k a0_2 2).bind fun t737 => ((impl_low.f k 0 4).bind fun t740 => ((bytes_Join.f (([t731, (([(a0_1) % 256, 0] : List Int)), t737, t740] : List (List Int))) ([] : List Int)).bind fun t746 => (some t746))))) = some r := h
  clear h
  replace H := Option.bind_eq_some_iff.mp H
  obtain ⟨t731, A20, H⟩ := H
  replace H : ((impl_low.f k a0_2 2).bind fun t737 => ((impl_low.f k 0 4).bind fun t740 => ((bytes_Join.f (([t731, (([(a0_1) % 256, 0] : List Int)), t737, t740] : List (List Int))) ([] : List Int)).bind fun t746 => (some t746)))) = some r := H
  have A2 := Aside0.mk A20
  clear A20
  obtain ⟨y734, hy734⟩ : ∃ y_ : List Int, y_ = (([(a0_1) % 256, 0] : List Int)) := ⟨_, rfl⟩
  replace H : ((impl_low.f k a0_2 2).bind fun t737 => ((impl_low.f k 0 4).bind fun t740 => ((bytes_Join.f (([t731, y734, t737, t740] : List (List Int))) ([] : List Int)).bind fun t746 => (some t746)))) = some r := by first | (rw [hy734]; with_reducible exact H) | (have H2_ := (Option.bind_some _ _).symm.trans H; rw [hy734]; with_reducible exact H2_) | (have H2_ := (Option.bind_some _ _).symm.trans H; with_reducible exact H2_) | with_reducible exact H | (rw [hy734]; exact H) | exact H
  have Ny734 := Aside0.mk hy734
  clear hy734
  replace H := Option.bind_eq_some_iff.mp H
  obtain ⟨t737, A30, H⟩ := H
  replace H : ((impl_low.f k 0 4).bind fun t740 => ((bytes_Join.f (([t731, y734, t737, t740] : List (List Int))) ([] : List Int)).bind fun t746 => (some t746))) = some r := H
  have A3 := Aside0.mk A30
  clear A30
  replace H := Option.bind_eq_some_iff.mp H
  obtain ⟨t740, A40, H⟩ := H
  replace H : ((bytes_Join.f (([t731, y734, t737, t740] : List (List Int))) ([] : List Int)).bind fun t746 => (some t746)) = some r := H
  have A4 := Aside0.mk A40
  clear A40
  obtain ⟨y743, hy743⟩ : ∃ y_ : List (List Int), y_ = (([t731, y734, t737, t740] : List (List Int))) := ⟨_, rfl⟩
  replace H : ((bytes_Join.f y743 ([] : List Int)).bind fun t746 => (some t746)) = some r := by first | (rw [hy743]; with_reducible exact H) | (have H2_ := (Option.bind_some _ _).symm.trans H; rw [hy743]; with_reducible exact H2_) | (have H2_ := (Option.bind_some _ _).symm.trans H; with_reducible exact H2_) | with_reducible exact H | (rw [hy743]; exact H) | exact H
  have Ny743 := Aside0.mk hy743
  clear hy743
  replace H := Option.bind_eq_some_iff.mp H
  obtain ⟨t746, A50, H⟩ := H
  replace H : (some t746) = some r := H
  have A5 := Aside0.mk A50
  clear A50
  obtain rfl := Option.some.inj H
  go_enter Try.func134, Try.ntmps134
  try go_wp2_with (first | ((with_reducible refine gate_dst (N := 1) rfl ?_); refine box_event ?hg (N := 1) ?hd (cs := #[.int .i64 a0_0, .int .i64 a0_1, .int .i64 a0_2]) (t := 100) ?hr ?_; (case hd => rfl); (case hg => rfl); (case hr => first | (go_simp; done) | (go_simp; rfl)); intro gb730 hg w6 hbox hb; have n0_ := Aside0.mk (below_step (by repeat (first | (with_reducible first | exact HB.out | apply below_alloc | apply pw_below_drewN | apply below_drew1) | exact HB.out)) hb); have n1_ := Aside0.mk (hbox); have n2_ := Aside0.mk ((by rw [hg]; exact (below_size (by repeat (first | (with_reducible first | exact HB.out | apply below_alloc | apply pw_below_drewN | apply below_drew1) | exact HB.out))) : w.heap.size ≤ gb730)); have n3_ := Aside0.mk ((by rw [hg]; exact (below_size (by repeat (first | (with_reducible first | exact HB.out | apply below_alloc | apply pw_below_drewN | apply below_drew1) | exact HB.out))) : w.heap.size ≤ gb730)); clear HB; have HB := n0_; have BK730 := n1_; have GW730 := n2_; have GE730 := n3_; clear n0_ n1_ n2_ n3_; clear hb hbox hg))
  have n0_ := Aside0.mk (blk_drew BK730.out)
  have n1_ := Aside0.mk (below_drew1 HB.out)
  clear BK730
  clear HB
  have BK730 := n0_
  have HB := n1_
  clear n0_ n1_
  refine start_ (n := 14) (S := fun w' => True) (ds := []) #[false, false, false, false, false, false, false, false, false, false, false, false, false, false] (by kernel_rfl) rfl rfl trivial (fun hHeld => ?_); refine with_tabW impl_head_bytes.tab1 impl_head_bytes.bits1 (fun HT_ HW_ => ?_)
  generalize w6.drew = w7 at BK730 HB hHeld ⊢
  refine pure_ (i := 0) (N := some 3) (v := ?_) (a' := ?_) #[true, false, false, false, false, false, false, false, false, false, false, false, false, false] rfl rfl (any_of HT_.out (by kernel_rfl)) (fun _ _ _ h => h) (Or.inl ⟨by rfl, ?_⟩) ?_ ?_
  rotate_left
  · intro w'
    go_simp
    with_reducible rfl
  rotate_left
  · simp only [Act.put, List.setIfInBounds_toArray, List.set_cons_zero, List.set_cons_succ, i64_w, i32_w]
    rfl
  refine pure_ (i := 3) (N := some 6) (v := ?_) (a' := ?_) #[true, false, false, true, false, false, false, false, false, false, false, false, false, false] rfl rfl (any_of HT_.out (by kernel_rfl)) (fun _ _ _ h => h) (Or.inl ⟨by rfl, ?_⟩) ?_ ?_
  rotate_left
  · intro w'
    go_simp
    with_reducible rfl
  rotate_left
  · simp only [Act.put, List.setIfInBounds_toArray, List.set_cons_zero, List.set_cons_succ, i64_w, i32_w]
    rfl
  refine pure_ (i := 7) (N := some 10) (v := ?_) (a' := ?_) #[true, false, false, true, false, false, false, true, false, false, false, false, false, false] rfl rfl (any_of HT_.out (by kernel_rfl)) (fun _ _ _ h => h) (Or.inl ⟨by rfl, ?_⟩) ?_ ?_
  rotate_left
  · intro w'
    go_simp
    with_reducible rfl
  rotate_left
  · simp only [Act.put, List.setIfInBounds_toArray, List.set_cons_zero, List.set_cons_succ, i64_w, i32_w]
    rfl
  refine inv_at [1, 2, 4, 5, 6, 8, 9, 10, 11, 12, 13] (fun a0_ b a w' => ∃ (v732 : Value) (v735 : Value) (v738 : Value) (v741 : Value) (v744 : Value) (v747 : Value) (m13_ : Value), a = putSel a0_ b [(1, 4, .int .i64 a0_0), (2, 5, v732), (4, 7, .int .i64 a0_1), (5, 8, .int .u8 ((a0_1) % 256)), (6, 9, v735), (8, 11, .int .i64 a0_2), (9, 12, v738), (10, 13, v741), (11, 14, v744), (12, 15, v747), (13, 2, m13_)] ∧ (w'.heap[gb730]? = some (.cells #[.int .i64 a0_0, .int .i64 a0_1, .int .i64 a0_2] 100 (0, 0))) ∧ (Below w.heap.size w w') ∧ (b 2 = true → b 11 = false → Kd.R (Kd.int .u8) 5 w' w.heap.size (fun _ => True) v732 t731) ∧ (b 6 = true → b 11 = false → Kd.R (Kd.int .u8) 5 w' w.heap.size (fun _ => True) v735 y734) ∧ (b 9 = true → b 11 = false → Kd.R (Kd.int .u8) 5 w' w.heap.size (fun _ => True) v738 t737) ∧ (b 10 = true → b 11 = false → Kd.R (Kd.int .u8) 5 w' w.heap.size (fun _ => True) v741 t740) ∧ (b 11 = true → Kd.N (Kd.slice 5 (Kd.int .u8)) 22 w' w.heap.size (fun k_ => k_ ≠ gb730) v744 y743) ∧ (b 12 = true → Kd.V (Kd.int .u8) 5 w' w.heap.size (fun k_ => w.heap.size ≤ k_) v747 t746) ∧ (b 13 = true → (m13_ : Value) = v747)) HT_.out HW_.out (by kernel_rfl) (by kernel_rfl) ?_ ?_ ?_
  · exact ⟨.bool false, .bool false, .bool false, .bool false, .bool false, .bool false, .bool false, by simp only [putSel, Bool.false_eq_true, if_false], BK730.out, HB.out, fun h_ => absurd h_ (by decide), fun h_ => absurd h_ (by decide), fun h_ => absurd h_ (by decide), fun h_ => absurd h_ (by decide), fun h_ => absurd h_ (by decide), fun h_ => absurd h_ (by decide), fun h_ => absurd h_ (by decide)⟩
  · skip
    clear BK730 HB
    refine steps_cons ?_ ?_
    · rintro b a w' ⟨v732, v735, v738, v741, v744, v747, m13_, ha, Q_BK730, Q_HB, Q_HO733, Q_HO736, Q_HO739, Q_HO742, Q_HO745, Q_HO748, Q_X13_⟩ hb_ hon hoff
      refine ⟨_, rfl, fun K hK => ?_⟩
      have e3 : a.tmps[3]? = some (.pointer (some ⟨gb730, 0, none⟩)) := by rw [ha]; exact (putSel_off rfl).trans rfl
      replace ha := Aside0.mk ha
      have BK730 := Aside0.mk Q_BK730
      have HB := Aside0.mk Q_HB
      have hc0_ : w'.cell? ⟨gb730, 0, none⟩ = some (.int .i64 a0_0) := (blk_cell BK730.out 0).trans rfl
      have hc1_ : w'.cell? ⟨gb730, 1, none⟩ = some (.int .i64 a0_1) := (blk_cell BK730.out 1).trans rfl
      have hc2_ : w'.cell? ⟨gb730, 2, none⟩ = some (.int .i64 a0_2) := (blk_cell BK730.out 2).trans rfl
      refine value_ (w1 := w') (v := .int .i64 a0_0) (by rfl) rfl ?_ ?_
      · go_simp
        (try simp only [i64_w])
        try rfl
      refine hK.out _ _ ⟨v732, v735, v738, v741, v744, v747, m13_, (by rw [ha.out]; exact putSel_upk 0 hb_ rfl rfl rfl), Q_BK730, Q_HB, fun h0_ _ => absurd ((hoff 2 (by kernel_rfl)).symm.trans h0_) (by decide), Q_HO736, fun h0_ _ => absurd ((hoff 9 (by kernel_rfl)).symm.trans h0_) (by decide), fun h0_ _ => absurd ((hoff 10 (by kernel_rfl)).symm.trans h0_) (by decide), fun h0_ => absurd ((hoff 11 (by kernel_rfl)).symm.trans h0_) (by decide), fun h0_ => absurd ((hoff 12 (by kernel_rfl)).symm.trans h0_) (by decide), fun h0_ => absurd ((hoff 13 (by kernel_rfl)).symm.trans h0_) (by decide)⟩
    refine steps_cons ?_ ?_
    · rintro b a w' ⟨v732, v735, v738, v741, v744, v747, m13_, ha, Q_BK730, Q_HB, Q_HO733, Q_HO736, Q_HO739, Q_HO742, Q_HO745, Q_HO748, Q_X13_⟩ hb_ hon hoff
      refine ⟨_, rfl, fun K hK => ?_⟩
      have e4 : a.tmps[4]? = some (.int .i64 a0_0) := by rw [ha]; exact putSel_on (e := (1, 4, .int .i64 a0_0)) 0 rfl rfl (hon 1 (by kernel_rfl)) rfl
      replace ha := Aside0.mk ha
      have BK730 := Aside0.mk Q_BK730
      have HB := Aside0.mk Q_HB
      refine goes_ Try.func135 (by kernel_rfl) rfl #[.int .i64 a0_0, .int .i64 4] (by rfl) rfl rfl (by first | (simp only [List.map_toArray, List.map_cons, List.map_nil, Act.eval, Array.getD_eq_getD_getElem?, Option.getD_some, e4]; done) | (simp only [List.map_toArray, List.map_cons, List.map_nil, Act.eval, Array.getD_eq_getD_getElem?, Option.getD_some, e4]; rfl)) ?_
      with_reducible refine (impl_low.calls k a0_0 4 t731 _ A2.out).mono ?_
      rintro e w8 ⟨v732, rfl, ho0, hb⟩
      refine ⟨_, rfl, ?_⟩
      have n0_ := Aside0.mk (Kd.R_lower ho0 (below_size (by repeat (first | (with_reducible first | exact HB.out | apply below_alloc | apply pw_below_drewN | apply below_drew1 | refine below_set ?_ GE730.out) | exact HB.out))))
      have n1_ := Aside0.mk (blk_below (g := gb730) (o := .cells #[.int .i64 a0_0, .int .i64 a0_1, .int .i64 a0_2] 100 (0, 0)) (by (with_reducible repeat (first | refine blk_drewN ?_ _ | refine blk_drew ?_ | refine blk_alloc ?_ _)); exact BK730.out) hb)
      have n2_ := Aside0.mk (below_step (by repeat (first | (with_reducible first | exact HB.out | apply below_alloc | apply pw_below_drewN | apply below_drew1 | refine below_set ?_ GE730.out) | exact HB.out)) hb)
      have z_HO736 := fun (h0_ : b 6 = true) (h1_ : b 11 = false) => (show Kd.R (Kd.int .u8) 5 w8 w.heap.size (fun _ => True) v735 y734 from by first | exact (Kd.R_elder' (by (with_reducible repeat (first | apply Kd.R_alloc | apply Kd.R_drewN | apply Kd.R_drew)); exact (Q_HO736 h0_ h1_)) (Kd.R_base ho0) hb) | exact Kd.R_mono (Kd.R_elder' (by (with_reducible repeat (first | apply Kd.R_alloc | apply Kd.R_drewN | apply Kd.R_drew)); exact (Q_HO736 h0_ h1_)) (Kd.R_base ho0) hb) (fun _ h_ => by first | trivial | exact h_ | exact h_.1))
      clear BK730
      clear HB
      have HO733 := n0_
      have BK730 := n1_
      have HB := n2_
      clear n0_ n1_ n2_
      (try clear hb)
      (try clear hb2)
      (try clear hk)
      (try clear hi)
      (try clear ho0)
      refine hK.out _ _ ⟨v732, v735, v738, v741, v744, v747, m13_, (by rw [ha.out]; exact putSel_upk 1 hb_ rfl rfl rfl), (by (with_reducible repeat (first | refine blk_drewN ?_ _ | refine blk_drew ?_ | refine blk_alloc ?_ _)); exact BK730.out), (by repeat (first | (with_reducible first | exact HB.out | apply below_alloc | apply pw_below_drewN | apply below_drew1 | refine below_set ?_ GE730.out) | exact HB.out)), fun _ _ => (by (with_reducible repeat (first | apply Kd.R_alloc | apply Kd.R_drewN | apply Kd.R_drew)); exact HO733.out), z_HO736, fun h0_ _ => absurd ((hoff 9 (by kernel_rfl)).symm.trans h0_) (by decide), fun h0_ _ => absurd ((hoff 10 (by kernel_rfl)).symm.trans h0_) (by decide), fun h0_ => absurd ((hoff 11 (by kernel_rfl)).symm.trans h0_) (by decide), fun h0_ => absurd ((hoff 12 (by kernel_rfl)).symm.trans h0_) (by decide), fun h0_ => absurd ((hoff 13 (by kernel_rfl)).symm.trans h0_) (by decide)⟩
    refine steps_cons ?_ ?_
    · rintro b a w' ⟨v732, v735, v738, v741, v744, v747, m13_, ha, Q_BK730, Q_HB, Q_HO733, Q_HO736, Q_HO739, Q_HO742, Q_HO745, Q_HO748, Q_X13_⟩ hb_ hon hoff
      refine ⟨_, rfl, fun K hK => ?_⟩
      have e6 : a.tmps[6]? = some (.pointer (some ⟨gb730, 1, none⟩)) := by rw [ha]; exact (putSel_off rfl).trans rfl
      replace ha := Aside0.mk ha
      have BK730 := Aside0.mk Q_BK730
      have HB := Aside0.mk Q_HB
      have hc0_ : w'.cell? ⟨gb730, 0, none⟩ = some (.int .i64 a0_0) := (blk_cell BK730.out 0).trans rfl
      have hc1_ : w'.cell? ⟨gb730, 1, none⟩ = some (.int .i64 a0_1) := (blk_cell BK730.out 1).trans rfl
      have hc2_ : w'.cell? ⟨gb730, 2, none⟩ = some (.int .i64 a0_2) := (blk_cell BK730.out 2).trans rfl
      refine value_ (w1 := w') (v := .int .i64 a0_1) (by rfl) rfl ?_ ?_
      · go_simp
        (try simp only [i64_w])
        try rfl
      refine hK.out _ _ ⟨v732, v735, v738, v741, v744, v747, m13_, (by rw [ha.out]; exact putSel_upk 2 hb_ rfl rfl rfl), Q_BK730, Q_HB, Q_HO733, fun h0_ _ => absurd ((hoff 6 (by kernel_rfl)).symm.trans h0_) (by decide), Q_HO739, Q_HO742, fun h0_ => absurd ((hoff 11 (by kernel_rfl)).symm.trans h0_) (by decide), fun h0_ => absurd ((hoff 12 (by kernel_rfl)).symm.trans h0_) (by decide), fun h0_ => absurd ((hoff 13 (by kernel_rfl)).symm.trans h0_) (by decide)⟩
    refine steps_cons ?_ ?_
    · rintro b a w' ⟨v732, v735, v738, v741, v744, v747, m13_, ha, Q_BK730, Q_HB, Q_HO733, Q_HO736, Q_HO739, Q_HO742, Q_HO745, Q_HO748, Q_X13_⟩ hb_ hon hoff
      refine ⟨_, rfl, fun K hK => ?_⟩
      have e7 : a.tmps[7]? = some (.int .i64 a0_1) := by rw [ha]; exact putSel_on (e := (4, 7, .int .i64 a0_1)) 2 rfl rfl (hon 4 (by kernel_rfl)) rfl
      replace ha := Aside0.mk ha
      have BK730 := Aside0.mk Q_BK730
      have HB := Aside0.mk Q_HB
      refine value_ (w1 := w') (v := .int .u8 ((a0_1) % 256)) (by rfl) rfl ?_ ?_
      · go_simp
        (try simp only [i64_w])
        try rfl
      refine hK.out _ _ ⟨v732, v735, v738, v741, v744, v747, m13_, (by rw [ha.out]; exact putSel_upk 3 hb_ rfl rfl rfl), Q_BK730, Q_HB, Q_HO733, fun h0_ _ => absurd ((hoff 6 (by kernel_rfl)).symm.trans h0_) (by decide), Q_HO739, Q_HO742, fun h0_ => absurd ((hoff 11 (by kernel_rfl)).symm.trans h0_) (by decide), fun h0_ => absurd ((hoff 12 (by kernel_rfl)).symm.trans h0_) (by decide), fun h0_ => absurd ((hoff 13 (by kernel_rfl)).symm.trans h0_) (by decide)⟩
    refine steps_cons ?_ ?_
    · rintro b a w' ⟨v732, v735, v738, v741, v744, v747, m13_, ha, Q_BK730, Q_HB, Q_HO733, Q_HO736, Q_HO739, Q_HO742, Q_HO745, Q_HO748, Q_X13_⟩ hb_ hon hoff
      refine ⟨_, rfl, fun K hK => ?_⟩
      have e8 : a.tmps[8]? = some (.int .u8 ((a0_1) % 256)) := by rw [ha]; exact putSel_on (e := (5, 8, .int .u8 ((a0_1) % 256))) 3 rfl rfl (hon 5 (by kernel_rfl)) rfl
      replace ha := Aside0.mk ha
      have BK730 := Aside0.mk Q_BK730
      have HB := Aside0.mk Q_HB
      refine Kd.R_lit_step (Kd.int .u8) _ 5 ?hg (N := 9) ?hd (xs := ([(a0_1) % 256, 0] : List Int)) (inner := [.int .u8 ((a0_1) % 256), .int .u8 0]) (ok := fun _ => True) (okp := fun _ => True) ?hr ?hp (fun _ hk => hk) trivial (Below.refl _ _) (Nat.le_refl _) (by simp) ?_; (case hd => rfl); (case hg => rfl); (case hr => first | (go_simp; done) | (go_simp; rfl)); (case hp => exact (Reps.one (show Kd.M (Kd.int .u8) _ _ _ ((a0_1) % 256) [.int .u8 ((a0_1) % 256)] from rfl) (Reps.one (show Kd.M (Kd.int .u8) _ _ _ 0 [.int .u8 0] from rfl) (Reps.none _ _))))
      intro v735 w8 ho9 hb hg_ hnew_
      clear hg_ hnew_
      (first | rw [← Ny734.out] at ho9 | (simp only [Int.reduceToNat] at ho9; rw [← Ny734.out] at ho9))
      have n0_ := Aside0.mk (Kd.R_lower ho9 (below_size (by repeat (first | (with_reducible first | exact HB.out | apply below_alloc | apply pw_below_drewN | apply below_drew1 | refine below_set ?_ GE730.out) | exact HB.out))))
      have n1_ := Aside0.mk (blk_below (g := gb730) (o := .cells #[.int .i64 a0_0, .int .i64 a0_1, .int .i64 a0_2] 100 (0, 0)) (by (with_reducible repeat (first | refine blk_drewN ?_ _ | refine blk_drew ?_ | refine blk_alloc ?_ _)); exact BK730.out) hb)
      have n2_ := Aside0.mk (below_step (by repeat (first | (with_reducible first | exact HB.out | apply below_alloc | apply pw_below_drewN | apply below_drew1 | refine below_set ?_ GE730.out) | exact HB.out)) hb)
      have z_HO733 := fun (h0_ : b 2 = true) (h1_ : b 11 = false) => (show Kd.R (Kd.int .u8) 5 w8 w.heap.size (fun _ => True) v732 t731 from by first | exact (Kd.R_elder' (by (with_reducible repeat (first | apply Kd.R_alloc | apply Kd.R_drewN | apply Kd.R_drew)); exact (Q_HO733 h0_ h1_)) (Kd.R_base ho9) hb) | exact Kd.R_mono (Kd.R_elder' (by (with_reducible repeat (first | apply Kd.R_alloc | apply Kd.R_drewN | apply Kd.R_drew)); exact (Q_HO733 h0_ h1_)) (Kd.R_base ho9) hb) (fun _ h_ => by first | trivial | exact h_ | exact h_.1))
      have z_HO739 := fun (h0_ : b 9 = true) (h1_ : b 11 = false) => (show Kd.R (Kd.int .u8) 5 w8 w.heap.size (fun _ => True) v738 t737 from by first | exact (Kd.R_elder' (by (with_reducible repeat (first | apply Kd.R_alloc | apply Kd.R_drewN | apply Kd.R_drew)); exact (Q_HO739 h0_ h1_)) (Kd.R_base ho9) hb) | exact Kd.R_mono (Kd.R_elder' (by (with_reducible repeat (first | apply Kd.R_alloc | apply Kd.R_drewN | apply Kd.R_drew)); exact (Q_HO739 h0_ h1_)) (Kd.R_base ho9) hb) (fun _ h_ => by first | trivial | exact h_ | exact h_.1))
      have z_HO742 := fun (h0_ : b 10 = true) (h1_ : b 11 = false) => (show Kd.R (Kd.int .u8) 5 w8 w.heap.size (fun _ => True) v741 t740 from by first | exact (Kd.R_elder' (by (with_reducible repeat (first | apply Kd.R_alloc | apply Kd.R_drewN | apply Kd.R_drew)); exact (Q_HO742 h0_ h1_)) (Kd.R_base ho9) hb) | exact Kd.R_mono (Kd.R_elder' (by (with_reducible repeat (first | apply Kd.R_alloc | apply Kd.R_drewN | apply Kd.R_drew)); exact (Q_HO742 h0_ h1_)) (Kd.R_base ho9) hb) (fun _ h_ => by first | trivial | exact h_ | exact h_.1))
      clear BK730
      clear HB
      have HO736 := n0_
      have BK730 := n1_
      have HB := n2_
      clear n0_ n1_ n2_
      clear hb ho9
      refine hK.out _ _ ⟨v732, v735, v738, v741, v744, v747, m13_, (by rw [ha.out]; exact putSel_upk 4 hb_ rfl rfl rfl), (by (with_reducible repeat (first | refine blk_drewN ?_ _ | refine blk_drew ?_ | refine blk_alloc ?_ _)); exact BK730.out), (by repeat (first | (with_reducible first | exact HB.out | apply below_alloc | apply pw_below_drewN | apply below_drew1 | refine below_set ?_ GE730.out) | exact HB.out)), z_HO733, fun _ _ => (by (with_reducible repeat (first | apply Kd.R_alloc | apply Kd.R_drewN | apply Kd.R_drew)); exact HO736.out), z_HO739, z_HO742, fun h0_ => absurd ((hoff 11 (by kernel_rfl)).symm.trans h0_) (by decide), fun h0_ => absurd ((hoff 12 (by kernel_rfl)).symm.trans h0_) (by decide), fun h0_ => absurd ((hoff 13 (by kernel_rfl)).symm.trans h0_) (by decide)⟩
    refine steps_cons ?_ ?_
    · rintro b a w' ⟨v732, v735, v738, v741, v744, v747, m13_, ha, Q_BK730, Q_HB, Q_HO733, Q_HO736, Q_HO739, Q_HO742, Q_HO745, Q_HO748, Q_X13_⟩ hb_ hon hoff
      refine ⟨_, rfl, fun K hK => ?_⟩
      have e10 : a.tmps[10]? = some (.pointer (some ⟨gb730, 2, none⟩)) := by rw [ha]; exact (putSel_off rfl).trans rfl
      replace ha := Aside0.mk ha
      have BK730 := Aside0.mk Q_BK730
      have HB := Aside0.mk Q_HB
      have hc0_ : w'.cell? ⟨gb730, 0, none⟩ = some (.int .i64 a0_0) := (blk_cell BK730.out 0).trans rfl
      have hc1_ : w'.cell? ⟨gb730, 1, none⟩ = some (.int .i64 a0_1) := (blk_cell BK730.out 1).trans rfl
      have hc2_ : w'.cell? ⟨gb730, 2, none⟩ = some (.int .i64 a0_2) := (blk_cell BK730.out 2).trans rfl
      refine value_ (w1 := w') (v := .int .i64 a0_2) (by rfl) rfl ?_ ?_
      · go_simp
        (try simp only [i64_w])
        try rfl
      refine hK.out _ _ ⟨v732, v735, v738, v741, v744, v747, m13_, (by rw [ha.out]; exact putSel_upk 5 hb_ rfl rfl rfl), Q_BK730, Q_HB, Q_HO733, Q_HO736, fun h0_ _ => absurd ((hoff 9 (by kernel_rfl)).symm.trans h0_) (by decide), fun h0_ _ => absurd ((hoff 10 (by kernel_rfl)).symm.trans h0_) (by decide), fun h0_ => absurd ((hoff 11 (by kernel_rfl)).symm.trans h0_) (by decide), fun h0_ => absurd ((hoff 12 (by kernel_rfl)).symm.trans h0_) (by decide), fun h0_ => absurd ((hoff 13 (by kernel_rfl)).symm.trans h0_) (by decide)⟩
    refine steps_cons ?_ ?_
    · rintro b a w' ⟨v732, v735, v738, v741, v744, v747, m13_, ha, Q_BK730, Q_HB, Q_HO733, Q_HO736, Q_HO739, Q_HO742, Q_HO745, Q_HO748, Q_X13_⟩ hb_ hon hoff
      refine ⟨_, rfl, fun K hK => ?_⟩
      have e11 : a.tmps[11]? = some (.int .i64 a0_2) := by rw [ha]; exact putSel_on (e := (8, 11, .int .i64 a0_2)) 5 rfl rfl (hon 8 (by kernel_rfl)) rfl
      replace ha := Aside0.mk ha
      have BK730 := Aside0.mk Q_BK730
      have HB := Aside0.mk Q_HB
      have HO733 := Aside0.mk (Q_HO733 (hon 2 (by kernel_rfl)) (hoff 11 (by kernel_rfl)))
      refine goes_ Try.func135 (by kernel_rfl) rfl #[.int .i64 a0_2, .int .i64 2] (by rfl) rfl rfl (by first | (simp only [List.map_toArray, List.map_cons, List.map_nil, Act.eval, Array.getD_eq_getD_getElem?, Option.getD_some, e11]; done) | (simp only [List.map_toArray, List.map_cons, List.map_nil, Act.eval, Array.getD_eq_getD_getElem?, Option.getD_some, e11]; rfl)) ?_
      with_reducible refine (impl_low.calls k a0_2 2 t737 _ A3.out).mono ?_
      rintro e w10 ⟨v738, rfl, ho0, hb⟩
      refine ⟨_, rfl, ?_⟩
      have n0_ := Aside0.mk (Kd.R_elder' (by (with_reducible repeat (first | apply Kd.R_alloc | apply Kd.R_drewN | apply Kd.R_drew)); exact HO733.out) (Kd.R_base ho0) hb)
      have n1_ := Aside0.mk (Kd.R_lower (Kd.R_new' ho0 (Kd.R_lt (by (with_reducible repeat (first | apply Kd.R_alloc | apply Kd.R_drewN | apply Kd.R_drew)); exact HO733.out))) (below_size (by repeat (first | (with_reducible first | exact HB.out | apply below_alloc | apply pw_below_drewN | apply below_drew1 | refine below_set ?_ GE730.out) | exact HB.out))))
      have n2_ := Aside0.mk (blk_below (g := gb730) (o := .cells #[.int .i64 a0_0, .int .i64 a0_1, .int .i64 a0_2] 100 (0, 0)) (by (with_reducible repeat (first | refine blk_drewN ?_ _ | refine blk_drew ?_ | refine blk_alloc ?_ _)); exact BK730.out) hb)
      have n3_ := Aside0.mk (below_step (by repeat (first | (with_reducible first | exact HB.out | apply below_alloc | apply pw_below_drewN | apply below_drew1 | refine below_set ?_ GE730.out) | exact HB.out)) hb)
      have z_HO736 := fun (h0_ : b 6 = true) (h1_ : b 11 = false) => (show Kd.R (Kd.int .u8) 5 w10 w.heap.size (fun _ => True) v735 y734 from by first | exact (Kd.R_elder' (by (with_reducible repeat (first | apply Kd.R_alloc | apply Kd.R_drewN | apply Kd.R_drew)); exact (Q_HO736 h0_ h1_)) (Kd.R_base ho0) hb) | exact Kd.R_mono (Kd.R_elder' (by (with_reducible repeat (first | apply Kd.R_alloc | apply Kd.R_drewN | apply Kd.R_drew)); exact (Q_HO736 h0_ h1_)) (Kd.R_base ho0) hb) (fun _ h_ => by first | trivial | exact h_ | exact h_.1))
      clear HO733
      clear BK730
      clear HB
      have HO733 := n0_
      have HO739 := n1_
      have BK730 := n2_
      have HB := n3_
      clear n0_ n1_ n2_ n3_
      (try clear hb)
      (try clear hb2)
      (try clear hk)
      (try clear hi)
      (try clear ho0)
      refine hK.out _ _ ⟨v732, v735, v738, v741, v744, v747, m13_, (by rw [ha.out]; exact putSel_upk 6 hb_ rfl rfl rfl), (by (with_reducible repeat (first | refine blk_drewN ?_ _ | refine blk_drew ?_ | refine blk_alloc ?_ _)); exact BK730.out), (by repeat (first | (with_reducible first | exact HB.out | apply below_alloc | apply pw_below_drewN | apply below_drew1 | refine below_set ?_ GE730.out) | exact HB.out)), fun _ _ => (by (with_reducible repeat (first | apply Kd.R_alloc | apply Kd.R_drewN | apply Kd.R_drew)); exact Kd.R_mono HO733.out (fun _ _ => trivial)), z_HO736, fun _ _ => (by (with_reducible repeat (first | apply Kd.R_alloc | apply Kd.R_drewN | apply Kd.R_drew)); exact Kd.R_mono HO739.out (fun _ _ => trivial)), fun h0_ _ => absurd ((hoff 10 (by kernel_rfl)).symm.trans h0_) (by decide), fun h0_ => absurd ((hoff 11 (by kernel_rfl)).symm.trans h0_) (by decide), fun h0_ => absurd ((hoff 12 (by kernel_rfl)).symm.trans h0_) (by decide), fun h0_ => absurd ((hoff 13 (by kernel_rfl)).symm.trans h0_) (by decide)⟩
    refine steps_cons ?_ ?_
    · rintro b a w' ⟨v732, v735, v738, v741, v744, v747, m13_, ha, Q_BK730, Q_HB, Q_HO733, Q_HO736, Q_HO739, Q_HO742, Q_HO745, Q_HO748, Q_X13_⟩ hb_ hon hoff
      refine ⟨_, rfl, fun K hK => ?_⟩
      replace ha := Aside0.mk ha
      have BK730 := Aside0.mk Q_BK730
      have HB := Aside0.mk Q_HB
      have HO733 := Aside0.mk (Q_HO733 (hon 2 (by kernel_rfl)) (hoff 11 (by kernel_rfl)))
      have HO739 := Aside0.mk (Q_HO739 (hon 9 (by kernel_rfl)) (hoff 11 (by kernel_rfl)))
      refine goes_ Try.func135 (by kernel_rfl) rfl #[.int .i64 0, .int .i64 4] (by rfl) rfl rfl (by first | (simp only [List.map_toArray, List.map_cons, List.map_nil, Act.eval, Array.getD_eq_getD_getElem?, Option.getD_some]; done) | (simp only [List.map_toArray, List.map_cons, List.map_nil, Act.eval, Array.getD_eq_getD_getElem?, Option.getD_some]; rfl)) ?_
      with_reducible refine (impl_low.calls k 0 4 t740 _ A4.out).mono ?_
      rintro e w11 ⟨v741, rfl, ho0, hb⟩
      refine ⟨_, rfl, ?_⟩
      have n0_ := Aside0.mk (Kd.R_elder' (by (with_reducible repeat (first | apply Kd.R_alloc | apply Kd.R_drewN | apply Kd.R_drew)); exact HO733.out) (Kd.R_base ho0) hb)
      have n1_ := Aside0.mk (Kd.R_elder' (by (with_reducible repeat (first | apply Kd.R_alloc | apply Kd.R_drewN | apply Kd.R_drew)); exact HO739.out) (Kd.R_base ho0) hb)
      have n2_ := Aside0.mk (Kd.R_lower (Kd.R_new' (Kd.R_new' ho0 (Kd.R_lt (by (with_reducible repeat (first | apply Kd.R_alloc | apply Kd.R_drewN | apply Kd.R_drew)); exact HO733.out))) (Kd.R_lt (by (with_reducible repeat (first | apply Kd.R_alloc | apply Kd.R_drewN | apply Kd.R_drew)); exact HO739.out))) (below_size (by repeat (first | (with_reducible first | exact HB.out | apply below_alloc | apply pw_below_drewN | apply below_drew1 | refine below_set ?_ GE730.out) | exact HB.out))))
      have n3_ := Aside0.mk (blk_below (g := gb730) (o := .cells #[.int .i64 a0_0, .int .i64 a0_1, .int .i64 a0_2] 100 (0, 0)) (by (with_reducible repeat (first | refine blk_drewN ?_ _ | refine blk_drew ?_ | refine blk_alloc ?_ _)); exact BK730.out) hb)
      have n4_ := Aside0.mk (below_step (by repeat (first | (with_reducible first | exact HB.out | apply below_alloc | apply pw_below_drewN | apply below_drew1 | refine below_set ?_ GE730.out) | exact HB.out)) hb)
      have z_HO736 := fun (h0_ : b 6 = true) (h1_ : b 11 = false) => (show Kd.R (Kd.int .u8) 5 w11 w.heap.size (fun _ => True) v735 y734 from by first | exact (Kd.R_elder' (by (with_reducible repeat (first | apply Kd.R_alloc | apply Kd.R_drewN | apply Kd.R_drew)); exact (Q_HO736 h0_ h1_)) (Kd.R_base ho0) hb) | exact Kd.R_mono (Kd.R_elder' (by (with_reducible repeat (first | apply Kd.R_alloc | apply Kd.R_drewN | apply Kd.R_drew)); exact (Q_HO736 h0_ h1_)) (Kd.R_base ho0) hb) (fun _ h_ => by first | trivial | exact h_ | exact h_.1))
      clear HO733
      clear HO739
      clear BK730
      clear HB
      have HO733 := n0_
      have HO739 := n1_
      have HO742 := n2_
      have BK730 := n3_
      have HB := n4_
      clear n0_ n1_ n2_ n3_ n4_
      (try clear hb)
      (try clear hb2)
      (try clear hk)
      (try clear hi)
      (try clear ho0)
      refine hK.out _ _ ⟨v732, v735, v738, v741, v744, v747, m13_, (by rw [ha.out]; exact putSel_upk 7 hb_ rfl rfl rfl), (by (with_reducible repeat (first | refine blk_drewN ?_ _ | refine blk_drew ?_ | refine blk_alloc ?_ _)); exact BK730.out), (by repeat (first | (with_reducible first | exact HB.out | apply below_alloc | apply pw_below_drewN | apply below_drew1 | refine below_set ?_ GE730.out) | exact HB.out)), fun _ _ => (by (with_reducible repeat (first | apply Kd.R_alloc | apply Kd.R_drewN | apply Kd.R_drew)); exact Kd.R_mono HO733.out (fun _ _ => trivial)), z_HO736, fun _ _ => (by (with_reducible repeat (first | apply Kd.R_alloc | apply Kd.R_drewN | apply Kd.R_drew)); exact Kd.R_mono HO739.out (fun _ _ => trivial)), fun _ _ => (by (with_reducible repeat (first | apply Kd.R_alloc | apply Kd.R_drewN | apply Kd.R_drew)); exact Kd.R_mono HO742.out (fun _ _ => trivial)), fun h0_ => absurd ((hoff 11 (by kernel_rfl)).symm.trans h0_) (by decide), fun h0_ => absurd ((hoff 12 (by kernel_rfl)).symm.trans h0_) (by decide), fun h0_ => absurd ((hoff 13 (by kernel_rfl)).symm.trans h0_) (by decide)⟩
    refine steps_cons ?_ ?_
    · rintro b a w' ⟨v732, v735, v738, v741, v744, v747, m13_, ha, Q_BK730, Q_HB, Q_HO733, Q_HO736, Q_HO739, Q_HO742, Q_HO745, Q_HO748, Q_X13_⟩ hb_ hon hoff
      refine ⟨_, rfl, fun K hK => ?_⟩
      have e5 : a.tmps[5]? = some (v732) := by rw [ha]; exact putSel_on (e := (2, 5, v732)) 1 rfl rfl (hon 2 (by kernel_rfl)) rfl
      have e9 : a.tmps[9]? = some (v735) := by rw [ha]; exact putSel_on (e := (6, 9, v735)) 4 rfl rfl (hon 6 (by kernel_rfl)) rfl
      have e12 : a.tmps[12]? = some (v738) := by rw [ha]; exact putSel_on (e := (9, 12, v738)) 6 rfl rfl (hon 9 (by kernel_rfl)) rfl
      have e13 : a.tmps[13]? = some (v741) := by rw [ha]; exact putSel_on (e := (10, 13, v741)) 7 rfl rfl (hon 10 (by kernel_rfl)) rfl
      replace ha := Aside0.mk ha
      have BK730 := Aside0.mk Q_BK730
      have HB := Aside0.mk Q_HB
      have HO733 := Aside0.mk (Q_HO733 (hon 2 (by kernel_rfl)) hb_)
      have HO736 := Aside0.mk (Q_HO736 (hon 6 (by kernel_rfl)) hb_)
      have HO739 := Aside0.mk (Q_HO739 (hon 9 (by kernel_rfl)) hb_)
      have HO742 := Aside0.mk (Q_HO742 (hon 10 (by kernel_rfl)) hb_)
      obtain ⟨Ao14, co14, eo14⟩ := Kd.R_slice HO733.out
      (first | subst eo14 | (injection eo14 with f1_ f2_ f3_; have f4_ := f1_.symm; have f5_ := f3_.symm; clear f1_ f2_ f3_; subst f4_; subst f5_))
      obtain ⟨Ao15, co15, eo15⟩ := Kd.R_slice HO736.out
      (first | subst eo15 | (injection eo15 with f1_ f2_ f3_; have f4_ := f1_.symm; have f5_ := f3_.symm; clear f1_ f2_ f3_; subst f4_; subst f5_))
      obtain ⟨Ao16, co16, eo16⟩ := Kd.R_slice HO739.out
      (first | subst eo16 | (injection eo16 with f1_ f2_ f3_; have f4_ := f1_.symm; have f5_ := f3_.symm; clear f1_ f2_ f3_; subst f4_; subst f5_))
      obtain ⟨Ao17, co17, eo17⟩ := Kd.R_slice HO742.out
      (first | subst eo17 | (injection eo17 with f1_ f2_ f3_; have f4_ := f1_.symm; have f5_ := f3_.symm; clear f1_ f2_ f3_; subst f4_; subst f5_))
      refine Kd.N_lit_step (Kd.slice 5 (Kd.int .u8)) _ 22 ?hg (N' := 14) ?hd (xs := ([t731, y734, t737, t740] : List (List Int))) (inner := [.slice Ao14 t731.length co14, .slice Ao15 y734.length co15, .slice Ao16 t737.length co16, .slice Ao17 t740.length co17]) (ok := (fun k_ => k_ ≠ gb730)) (okp := (fun k_ => k_ ≠ gb730)) ?hr ?hp (fun _ hk => hk) ((show ∀ k_, w'.heap.size ≤ k_ → (fun k_ => k_ ≠ gb730) k_ from fun k_ hk => Kd.freshB (g := gb730) (o := .cells #[.int .i64 a0_0, .int .i64 a0_1, .int .i64 a0_2] 100 (0, 0)) (by (with_reducible repeat (first | refine blk_drewN ?_ _ | refine blk_drew ?_ | refine blk_alloc ?_ _)); exact BK730.out) k_ hk) _ (Nat.le_refl _)) (Below.refl _ _) (Nat.le_refl _) (by simp) ?_; (case hd => rfl); (case hg => rfl); (case hr => first | (go_simp; done) | (go_simp; rfl)); (case hp => exact (Reps.one (show Kd.FK (Kd.slice 5 (Kd.int .u8)) _ _ t731 [.slice Ao14 t731.length co14] from (Kd.FK_slice_mk (Kd.R_reads' (Kd.R_mono (ok' := (fun k_ => k_ ≠ gb730)) (Kd.R_types (HO733.out) BK730.out (by decide)) (fun k_ hk => hk.2))).2.1 (Kd.R_F (Kd.R_mono (ok' := (fun k_ => k_ ≠ gb730)) (Kd.R_types (HO733.out) BK730.out (by decide)) (fun k_ hk => hk.2))))) (Reps.one (show Kd.FK (Kd.slice 5 (Kd.int .u8)) _ _ y734 [.slice Ao15 y734.length co15] from (Kd.FK_slice_mk (Kd.R_reads' (Kd.R_mono (ok' := (fun k_ => k_ ≠ gb730)) (Kd.R_types (HO736.out) BK730.out (by decide)) (fun k_ hk => hk.2))).2.1 (Kd.R_F (Kd.R_mono (ok' := (fun k_ => k_ ≠ gb730)) (Kd.R_types (HO736.out) BK730.out (by decide)) (fun k_ hk => hk.2))))) (Reps.one (show Kd.FK (Kd.slice 5 (Kd.int .u8)) _ _ t737 [.slice Ao16 t737.length co16] from (Kd.FK_slice_mk (Kd.R_reads' (Kd.R_mono (ok' := (fun k_ => k_ ≠ gb730)) (Kd.R_types (HO739.out) BK730.out (by decide)) (fun k_ hk => hk.2))).2.1 (Kd.R_F (Kd.R_mono (ok' := (fun k_ => k_ ≠ gb730)) (Kd.R_types (HO739.out) BK730.out (by decide)) (fun k_ hk => hk.2))))) (Reps.one (show Kd.FK (Kd.slice 5 (Kd.int .u8)) _ _ t740 [.slice Ao17 t740.length co17] from (Kd.FK_slice_mk (Kd.R_reads' (Kd.R_mono (ok' := (fun k_ => k_ ≠ gb730)) (Kd.R_types (HO742.out) BK730.out (by decide)) (fun k_ hk => hk.2))).2.1 (Kd.R_F (Kd.R_mono (ok' := (fun k_ => k_ ≠ gb730)) (Kd.R_types (HO742.out) BK730.out (by decide)) (fun k_ hk => hk.2))))) (Reps.none _ _))))))
      intro v744 w18 ho19 hb hg_ hnew_
      clear hg_ hnew_
      (first | rw [← Ny743.out] at ho19 | (simp only [Int.reduceToNat] at ho19; rw [← Ny743.out] at ho19))
      have n0_ := Aside0.mk (Kd.N_lower ho19 (below_size (by repeat (first | (with_reducible first | exact HB.out | apply below_alloc | apply pw_below_drewN | apply below_drew1 | refine below_set ?_ GE730.out) | exact HB.out))))
      have n1_ := Aside0.mk (blk_below (g := gb730) (o := .cells #[.int .i64 a0_0, .int .i64 a0_1, .int .i64 a0_2] 100 (0, 0)) (by (with_reducible repeat (first | refine blk_drewN ?_ _ | refine blk_drew ?_ | refine blk_alloc ?_ _)); exact BK730.out) hb)
      have n2_ := Aside0.mk (below_step (by repeat (first | (with_reducible first | exact HB.out | apply below_alloc | apply pw_below_drewN | apply below_drew1 | refine below_set ?_ GE730.out) | exact HB.out)) hb)
      clear BK730
      clear HB
      clear HO733
      clear HO736
      clear HO739
      clear HO742
      have HO745 := n0_
      have BK730 := n1_
      have HB := n2_
      clear n0_ n1_ n2_
      clear hb ho19
      refine hK.out _ _ ⟨.slice Ao14 t731.length co14, .slice Ao15 y734.length co15, .slice Ao16 t737.length co16, .slice Ao17 t740.length co17, v744, v747, m13_, (by rw [ha.out]; exact putSel_upk 8 hb_ rfl rfl rfl), (by (with_reducible repeat (first | refine blk_drewN ?_ _ | refine blk_drew ?_ | refine blk_alloc ?_ _)); exact BK730.out), (by repeat (first | (with_reducible first | exact HB.out | apply below_alloc | apply pw_below_drewN | apply below_drew1 | refine below_set ?_ GE730.out) | exact HB.out)), fun _ h1_ => absurd ((up_self b 11).symm.trans h1_) (by decide), fun _ h1_ => absurd ((up_self b 11).symm.trans h1_) (by decide), fun _ h1_ => absurd ((up_self b 11).symm.trans h1_) (by decide), fun _ h1_ => absurd ((up_self b 11).symm.trans h1_) (by decide), fun _ => (by (with_reducible repeat (first | apply Kd.N_alloc | apply Kd.N_drewN | apply Kd.N_drew)); exact HO745.out), fun h0_ => absurd ((hoff 12 (by kernel_rfl)).symm.trans h0_) (by decide), fun h0_ => absurd ((hoff 13 (by kernel_rfl)).symm.trans h0_) (by decide)⟩
    refine steps_cons ?_ ?_
    · rintro b a w' ⟨v732, v735, v738, v741, v744, v747, m13_, ha, Q_BK730, Q_HB, Q_HO733, Q_HO736, Q_HO739, Q_HO742, Q_HO745, Q_HO748, Q_X13_⟩ hb_ hon hoff
      refine ⟨_, rfl, fun K hK => ?_⟩
      have e14 : a.tmps[14]? = some (v744) := by rw [ha]; exact putSel_on (e := (11, 14, v744)) 8 rfl rfl (hon 11 (by kernel_rfl)) rfl
      replace ha := Aside0.mk ha
      have BK730 := Aside0.mk Q_BK730
      have HB := Aside0.mk Q_HB
      have HO745 := Aside0.mk (Q_HO745 (hon 11 (by kernel_rfl)))
      obtain ⟨Ao20, co20, eo20⟩ := Kd.N_slice HO745.out
      (first | subst eo20 | (injection eo20 with f1_ f2_ f3_; have f4_ := f1_.symm; have f5_ := f3_.symm; clear f1_ f2_ f3_; subst f4_; subst f5_))
      refine goes_ Try.func153 (by kernel_rfl) rfl #[.slice Ao20 y743.length co20, .slice none 0 0] (by rfl) rfl rfl (by first | (simp only [List.map_toArray, List.map_cons, List.map_nil, Act.eval, Array.getD_eq_getD_getElem?, Option.getD_some, e14]; done) | (simp only [List.map_toArray, List.map_cons, List.map_nil, Act.eval, Array.getD_eq_getD_getElem?, Option.getD_some, e14]; rfl)) ?_
      refine (bytes_Join.calls _ _ y743 _ _ ([] : List Int) t746 _ ?side1 ?side2 ?side3 ?side4 A5.out).mono ?_
      (case side1 => repeat (first | exact (Kd.N_reads' HO745.out).2.2 | (with_reducible refine Kd.C_alloc ?_ _) | (with_reducible refine Kd.C_drewN ?_ _) | (with_reducible refine Kd.C_drew ?_)))
      (case side2 => exact (Kd.N_reads' HO745.out).2.1)
      (case side3 => exact Kd.C_nil _ _)
      (case side4 => exact Nat.le_refl _)
      rintro e w21 ⟨v747, rfl, ho0, hb⟩
      refine ⟨_, rfl, ?_⟩
      have n0_ := Aside0.mk (Kd.N_below HO745.out hb)
      have n1_ := Aside0.mk (Kd.V_mono (ok' := fun k_ => w.heap.size ≤ k_) ho0 (fun k_ hk_ => Nat.le_trans HB.out.size hk_))
      have n2_ := Aside0.mk (blk_below (g := gb730) (o := .cells #[.int .i64 a0_0, .int .i64 a0_1, .int .i64 a0_2] 100 (0, 0)) (by (with_reducible repeat (first | refine blk_drewN ?_ _ | refine blk_drew ?_ | refine blk_alloc ?_ _)); exact BK730.out) hb)
      have n3_ := Aside0.mk (below_step (by repeat (first | (with_reducible first | exact HB.out | apply below_alloc | apply pw_below_drewN | apply below_drew1 | refine below_set ?_ GE730.out) | exact HB.out)) hb)
      clear HO745
      clear BK730
      clear HB
      have HO745 := n0_
      have HO748 := n1_
      have BK730 := n2_
      have HB := n3_
      clear n0_ n1_ n2_ n3_
      (try clear hb)
      (try clear hb2)
      (try clear hk)
      (try clear hi)
      (try clear ho0)
      refine hK.out _ _ ⟨v732, v735, v738, v741, .slice Ao20 y743.length co20, v747, m13_, (by rw [ha.out]; exact putSel_upk 9 hb_ rfl rfl rfl), (by (with_reducible repeat (first | refine blk_drewN ?_ _ | refine blk_drew ?_ | refine blk_alloc ?_ _)); exact BK730.out), (by repeat (first | (with_reducible first | exact HB.out | apply below_alloc | apply pw_below_drewN | apply below_drew1 | refine below_set ?_ GE730.out) | exact HB.out)), fun _ h1_ => absurd ((hon 11 (by kernel_rfl)).symm.trans h1_) (by decide), fun _ h1_ => absurd ((hon 11 (by kernel_rfl)).symm.trans h1_) (by decide), fun _ h1_ => absurd ((hon 11 (by kernel_rfl)).symm.trans h1_) (by decide), fun _ h1_ => absurd ((hon 11 (by kernel_rfl)).symm.trans h1_) (by decide), fun _ => (by (with_reducible repeat (first | apply Kd.N_alloc | apply Kd.N_drewN | apply Kd.N_drew)); exact HO745.out), fun _ => HO748.out, fun h0_ => absurd ((hoff 13 (by kernel_rfl)).symm.trans h0_) (by decide)⟩
    refine steps_cons ?_ ?_
    · rintro b a w' ⟨v732, v735, v738, v741, v744, v747, m13_, ha, Q_BK730, Q_HB, Q_HO733, Q_HO736, Q_HO739, Q_HO742, Q_HO745, Q_HO748, Q_X13_⟩ hb_ hon hoff
      refine ⟨_, rfl, fun K hK => ?_⟩
      have e15 : a.tmps[15]? = some (v747) := by rw [ha]; exact putSel_on (e := (12, 15, v747)) 9 rfl rfl (hon 12 (by kernel_rfl)) rfl
      replace ha := Aside0.mk ha
      have BK730 := Aside0.mk Q_BK730
      have HB := Aside0.mk Q_HB
      have HO745 := Aside0.mk (Q_HO745 (hon 11 (by kernel_rfl)))
      have HO748 := Aside0.mk (Q_HO748 (hon 12 (by kernel_rfl)))
      refine value_ (w1 := w') (v := v747) (by rfl) rfl ?_ ?_
      · go_simp
        (try simp only [i64_w])
        try rfl
      refine hK.out _ _ ⟨v732, v735, v738, v741, v744, v747, (v747), (by rw [ha.out]; exact putSel_upk 10 hb_ rfl rfl rfl), Q_BK730, Q_HB, fun _ h1_ => absurd ((hon 11 (by kernel_rfl)).symm.trans h1_) (by decide), fun _ h1_ => absurd ((hon 11 (by kernel_rfl)).symm.trans h1_) (by decide), fun _ h1_ => absurd ((hon 11 (by kernel_rfl)).symm.trans h1_) (by decide), fun _ h1_ => absurd ((hon 11 (by kernel_rfl)).symm.trans h1_) (by decide), Q_HO745, Q_HO748, fun _ => rfl⟩
    exact steps_nil
  rintro b a w21 hall ⟨v732, v735, v738, v741, v744, v747, m13_, ha, Q_BK730, Q_HB, Q_HO733, Q_HO736, Q_HO739, Q_HO742, Q_HO745, Q_HO748, Q_X13_⟩
  clear BK730 HB
  have hb1_ := hall 1 (by kernel_rfl)
  have hb2_ := hall 2 (by kernel_rfl)
  have hb4_ := hall 4 (by kernel_rfl)
  have hb5_ := hall 5 (by kernel_rfl)
  have hb6_ := hall 6 (by kernel_rfl)
  have hb8_ := hall 8 (by kernel_rfl)
  have hb9_ := hall 9 (by kernel_rfl)
  have hb10_ := hall 10 (by kernel_rfl)
  have hb11_ := hall 11 (by kernel_rfl)
  have hb12_ := hall 12 (by kernel_rfl)
  have hb13_ := hall 13 (by kernel_rfl)
  subst ha
  obtain rfl := Q_X13_ hb13_
  simp only [putSel, hb1_, hb2_, hb4_, hb5_, hb6_, hb8_, hb9_, hb10_, hb11_, hb12_, hb13_, if_true, Act.put, List.setIfInBounds_toArray, List.set_cons_zero, List.set_cons_succ]
  have BK730 := Aside0.mk Q_BK730
  clear Q_BK730
  have HB := Aside0.mk Q_HB
  clear Q_HB
  clear Q_HO733
  clear Q_HO736
  clear Q_HO739
  clear Q_HO742
  have HO745 := Aside0.mk (Q_HO745 hb11_)
  clear Q_HO745
  have HO748 := Aside0.mk (Q_HO748 hb12_)
  clear Q_HO748
  clear hall hb1_ hb2_ hb4_ hb5_ hb6_ hb8_ hb9_ hb10_ hb11_ hb12_ hb13_
  try go_wp2
  go_ret
  exact ⟨_, by first | rfl | (simp [errW_none, errW_some] <;> rfl) | (simp [*, errW_none, errW_some] <;> rfl), HO748.out, by repeat (first | (with_reducible first | exact HB.out | apply below_alloc | apply pw_below_drewN | apply below_drew1 | refine below_set ?_ GE730.out) | exact HB.out)⟩

end Go.Proofs.Ytlopmffdebhpfaa.G

/-! ## G136 -/
namespace Go.Proofs.Ytlopmffdebhpfaa.G
open Go.RowKit Go.Proofs.YtlopmffdebhpfaaW.PrintWords Go.Proofs.YtlopmffdebhpfaaW.PrintLast Go.Proofs.YtlopmffdebhpfaaW.PrintMore
attribute [local go_sem] max2_int min2_int max_two min_two max_three min_three max_four min_four
set_option linter.unusedVariables false
set_option linter.unusedSimpArgs false

/-! ### impl_Crc32: function 136 -/
mutual
def impl_Crc32.l0 : Nat → Int → List Int → Int → Int → Option (Int)
  | 0, _, _, _, _ => none
  | k + 1, x3, x7, x8, x9 => if x9 < x8 then (if 0 ≤ x9 then (if x9 < (x7.length : Int) then (impl_Crc32.l1 k (Go.bits .xor .u32 x3 ((rd x7 x9) % 4294967296)) x7 x8 x9 0) else (none)) else (none)) else (some (wrap64 (Go.bits .xor .u32 x3 4294967295)))
def impl_Crc32.l1 : Nat → Int → List Int → Int → Int → Int → Option (Int)
  | 0, _, _, _, _, _ => none
  | k + 1, x3, x7, x8, x9, x17 => if x17 < 8 then (if (Go.bits .and .u32 x3 1) = 1 then (impl_Crc32.l1 k (Go.bits .xor .u32 (x3 / 2) 3988292384) x7 x8 x9 (wrap64 (x17 + 1))) else (impl_Crc32.l1 k (x3 / 2) x7 x8 x9 (wrap64 (x17 + 1)))) else (impl_Crc32.l0 k x3 x7 x8 (wrap64 (x9 + 1)))
end
def impl_Crc32.f (k : Nat) (l0 : List Int) : Option (Int) := impl_Crc32.l0 k 4294967295 l0 (l0.length : Int) 0
set_option maxRecDepth 100000 in
theorem impl_Crc32.mono_l : ∀ k, (∀ y0 y1 y2 y3, LeO (impl_Crc32.l0 k y0 y1 y2 y3) (impl_Crc32.l0 (k + 1) y0 y1 y2 y3)) ∧ (∀ y0 y1 y2 y3 y4, LeO (impl_Crc32.l1 k y0 y1 y2 y3 y4) (impl_Crc32.l1 (k + 1) y0 y1 y2 y3 y4))
  | 0 => ⟨fun _ _ _ _ r h => by simp [impl_Crc32.l0] at h, fun _ _ _ _ _ r h => by simp [impl_Crc32.l1] at h⟩
  | k + 1 => by
    obtain ⟨ih0, ih1⟩ := impl_Crc32.mono_l k
    refine ⟨?_, ?_⟩
    · intro y0 y1 y2 y3
      unfold impl_Crc32.l0
      repeat' first
      | (with_reducible exact ih0 _ _ _ _)
      | (with_reducible exact ih1 _ _ _ _ _)
      | (with_reducible exact LeO.refl _)
      | (with_reducible exact LeO.none _)
      | (with_reducible refine LeO.ite ?_ ?_)
      | (with_reducible refine LeO.bind ?_ (fun _ => ?_))
      | exact ih0 _ _ _ _
      | exact ih1 _ _ _ _ _
      | exact LeO.none _
      | refine LeO.ite ?_ ?_
      | refine LeO.bind ?_ (fun _ => ?_)
    · intro y0 y1 y2 y3 y4
      unfold impl_Crc32.l1
      repeat' first
      | (with_reducible exact ih0 _ _ _ _)
      | (with_reducible exact ih1 _ _ _ _ _)
      | (with_reducible exact LeO.refl _)
      | (with_reducible exact LeO.none _)
      | (with_reducible refine LeO.ite ?_ ?_)
      | (with_reducible refine LeO.bind ?_ (fun _ => ?_))
      | exact ih0 _ _ _ _
      | exact ih1 _ _ _ _ _
      | exact LeO.none _
      | refine LeO.ite ?_ ?_
      | refine LeO.bind ?_ (fun _ => ?_)
set_option maxRecDepth 100000 in
theorem impl_Crc32.mono : ∀ a0 k, LeO (impl_Crc32.f k a0) (impl_Crc32.f (k + 1) a0) := by
  intro a0 k
  obtain ⟨ih0, ih1⟩ := impl_Crc32.mono_l k
  unfold impl_Crc32.f
  repeat' first
      | (with_reducible exact ih0 _ _ _ _)
      | (with_reducible exact ih1 _ _ _ _ _)
      | (with_reducible exact LeO.refl _)
      | (with_reducible exact LeO.none _)
      | (with_reducible refine LeO.ite ?_ ?_)
      | (with_reducible refine LeO.bind ?_ (fun _ => ?_))
      | exact ih0 _ _ _ _
      | exact ih1 _ _ _ _ _
      | exact LeO.none _
      | refine LeO.ite ?_ ?_
      | refine LeO.bind ?_ (fun _ => ?_)
set_option maxHeartbeats 8000000 in
set_option maxRecDepth 100000 in
theorem impl_Crc32.calls (k : Nat) (A0 : Option Addr) (c0 : Nat) (l0 : List Int) (r : Int) (w : World) (hr0 : Kd.C (Kd.int .u8) w A0 l0.length l0) (hc0 : l0.length ≤ c0) (h : impl_Crc32.f k l0 = some r) :
    Calls Try.prog 136 #[.slice A0 l0.length c0] w fun e w' => e = .returned (.int .i64 r) ∧ Drawn0 w w' := by
  have HR0 := Aside0.mk hr0
  have HC0 := Aside0.mk hc0
  clear hr0 hc0
  have H : (impl_Crc32.l0 k 4294967295 l0 (l0.length : Int) 0) = some r := h
  clear h
  have H' := Aside0.mk H
  clear H
  go_enter Try.func136, Try.ntmps136
  go_wp2
  go_loopg [3, 9] k (fun kq v3 v9 w' => ∃ (x3_1 : Int) (x9_1 : Int), v3 = .int .u32 x3_1 ∧ v9 = .int .i64 x9_1 ∧ Aside0 (impl_Crc32.l0 kq x3_1 l0 (l0.length : Int) x9_1 = some r) ∧ Aside0 (kq ≤ k) ∧ Drawn0 w w')
  case atStart => exact ⟨(4294967295), (0), (by first | rfl | (simp; done) | (simp [*]; done)), (by first | rfl | (simp; done) | (simp [*]; done)), H', ⟨Nat.le_refl _⟩, by repeat (first | exact Drawn0.refl _ | apply Drawn0.step)⟩
  case round =>
    clear H'
    try clear c1
    obtain ⟨x3_1, x9_1, rfl, rfl, HA, HK1, ⟨m1, rfl⟩⟩ := hrel
    cases gk with
    | zero => exact absurd HA.out (by simp [impl_Crc32.l0])
    | succ k1 =>
      have H := HA.out
      clear HA
      simp only [impl_Crc32.l0] at H
      by_cases c2 : x9_1 < (l0.length : Int)
      · rw [if_pos c2] at H
        have c2b0 : decide (x9_1 < (l0.length : Int)) = true := decide_eq_true c2
        clear c2
        by_cases c3 : 0 ≤ x9_1
        · rw [if_pos c3] at H
          have c3b0 : decide (0 ≤ x9_1) = true := decide_eq_true c3
          clear c3
          by_cases c4 : x9_1 < (l0.length : Int)
          · rw [if_pos c4] at H
            have c4b0 : decide (x9_1 < (l0.length : Int)) = true := decide_eq_true c4
            clear c4
            have H' := Aside0.mk H
            clear H
            have p749 : 0 ≤ (x9_1 : Int) := of_decide_eq_true (by first | (with_reducible assumption) | assumption)
            have q749 : x9_1 < (l0.length : Int) := of_decide_eq_true (by first | (with_reducible assumption) | assumption)
            obtain ⟨ad749, e749, hx749_0⟩ := Kd.at_int HR0.out x9_1 p749 q749
            cases e749
            replace p749 := eq_true p749
            replace q749 := eq_true q749
            go_wp2
            go_loopg [3, 17] k1 (fun kq v3 v17 w' => ∃ (x3_2 : Int) (x17_2 : Int), v3 = .int .u32 x3_2 ∧ v17 = .int .i64 x17_2 ∧ Aside0 (impl_Crc32.l1 kq x3_2 l0 (l0.length : Int) x9_1 x17_2 = some r) ∧ Aside0 (kq ≤ k1) ∧ Drawn0 w w')
            case atStart => exact ⟨(Go.bits .xor .u32 x3_1 ((rd l0 x9_1) % 4294967296)), (0), (by first | rfl | (simp; done) | (simp [*]; done)), (by first | rfl | (simp; done) | (simp [*]; done)), H', ⟨Nat.le_refl _⟩, by repeat (first | exact Drawn0.refl _ | apply Drawn0.step)⟩
            case round =>
              clear H'
              try clear c1
              try clear c2
              try clear c2b0
              try clear p2
              try clear c3
              try clear c3b0
              try clear c4
              try clear c4b0
              try clear hx749_0
              try clear p749
              try clear q749
              obtain ⟨x3_2, x17_2, rfl, rfl, HA, HK2, ⟨m2, rfl⟩⟩ := hrel
              cases gk with
              | zero => exact absurd HA.out (by simp [impl_Crc32.l1])
              | succ k2 =>
                have H := HA.out
                clear HA
                simp only [impl_Crc32.l1] at H
                by_cases c5 : x17_2 < 8
                · rw [if_pos c5] at H
                  have c5b0 : decide (x17_2 < 8) = true := decide_eq_true c5
                  clear c5
                  by_cases c6 : (Go.bits .and .u32 x3_2 1) = 1
                  · rw [if_pos c6] at H
                    have c6b0 : ((Go.bits .and .u32 x3_2 1) == 1) = true := beq_iff_eq.mpr c6
                    have c6b1 : ((Go.bits .and .u32 x3_2 1) != 1) = false := bne_eq_false_iff_eq.mpr c6
                    clear c6
                    have H' := Aside0.mk H
                    clear H
                    go_wp2
                    go_roundg k2
                    case measure => have := HK1.out; have := HK2.out; omega
                    case rel => exact ⟨(Go.bits .xor .u32 (x3_2 / 2) 3988292384), (wrap64 (x17_2 + 1)), (by first | rfl | (simp; done) | (simp [*]; done)), (by first | rfl | (simp; done) | (simp [*]; done)), H', ⟨by have := HK1.out; have := HK2.out; omega⟩, by repeat (first | exact Drawn0.refl _ | apply Drawn0.step)⟩
                  · rw [if_neg c6] at H
                    have c6b0 : ((Go.bits .and .u32 x3_2 1) == 1) = false := beq_eq_false_iff_ne.mpr c6
                    have c6b1 : ((Go.bits .and .u32 x3_2 1) != 1) = true := bne_iff_ne.mpr c6
                    have H' := Aside0.mk H
                    clear H
                    go_wp2
                    go_roundg k2
                    case measure => have := HK1.out; have := HK2.out; omega
                    case rel => exact ⟨(x3_2 / 2), (wrap64 (x17_2 + 1)), (by first | rfl | (simp; done) | (simp [*]; done)), (by first | rfl | (simp; done) | (simp [*]; done)), H', ⟨by have := HK1.out; have := HK2.out; omega⟩, by repeat (first | exact Drawn0.refl _ | apply Drawn0.step)⟩
                · rw [if_neg c5] at H
                  have c5b0 : decide (x17_2 < 8) = false := decide_eq_false c5
                  clear c5
                  have H' := Aside0.mk H
                  clear H
                  go_wp2
                  go_roundg k2
                  case measure => have := HK1.out; have := HK2.out; omega
                  case rel => exact ⟨(x3_2), (wrap64 (x9_1 + 1)), (by first | rfl | (simp; done) | (simp [*]; done)), (by first | rfl | (simp; done) | (simp [*]; done)), H', ⟨by have := HK1.out; have := HK2.out; omega⟩, by repeat (first | exact Drawn0.refl _ | apply Drawn0.step)⟩
          · rw [if_neg c4] at H
            exact absurd H (by simp)
        · rw [if_neg c3] at H
          exact absurd H (by simp)
      · rw [if_neg c2] at H
        have c2b0 : decide (x9_1 < (l0.length : Int)) = false := decide_eq_false c2
        clear c2
        obtain rfl := Option.some.inj H
        go_wp2
        go_ret
        exact ⟨by first | rfl | (simp; done) | (simp [*]; done), by repeat (first | exact Drawn0.refl _ | apply Drawn0.step)⟩

end Go.Proofs.Ytlopmffdebhpfaa.G

/-! ## PageB -/
namespace Go.Proofs.Ytlopmffdebhpfaa.G
open Go.RowKit Go.Proofs.YtlopmffdebhpfaaW.PrintWords Go.Proofs.YtlopmffdebhpfaaW.PrintLast Go.Proofs.YtlopmffdebhpfaaW.PrintMore
set_option linter.unusedVariables false
set_option linter.unusedSimpArgs false

/-- The page's bytes: the head at 4, the body at 16, the checksum of all behind it at 0. -/
def pageRest (hb l3 : List Int) : List Int := spl (spl (List.replicate 256 0) 4 hb) 16 l3
def impl_page_bytes.f (k : Nat) (a0 : Int) (a1 : Int) (a2 : Int) (l3 : List Int) : Option (List Int) :=
  (impl_head_bytes.f k a0 a1 a2).bind fun hb => if hb.length ≤ 252 then (if l3.length ≤ 240 then ((impl_Crc32.f k ((pageRest hb l3).drop 4)).bind fun c => ((impl_low.f k c 4).bind fun lb => (if lb.length ≤ 256 then (some (spl (pageRest hb l3) 0 lb)) else none))) else none) else none
theorem impl_page_bytes.mono : ∀ a0 a1 a2 a3 k, LeO (impl_page_bytes.f k a0 a1 a2 a3) (impl_page_bytes.f (k + 1) a0 a1 a2 a3) := by
  intro a0 a1 a2 a3 k
  unfold impl_page_bytes.f
  refine LeO.bind (impl_head_bytes.mono _ _ _ _) (fun _ => LeO.ite (LeO.ite (LeO.bind (impl_Crc32.mono _ _) (fun _ => LeO.bind (impl_low.mono _ _ _) (fun _ => LeO.refl _))) (LeO.refl _)) (LeO.refl _))
theorem pageRest_length (hb l3 : List Int) (h1 : hb.length ≤ 252) (h2 : l3.length ≤ 240) : (pageRest hb l3).length = 256 := by
  unfold pageRest
  have h0 : (List.replicate 256 (0 : Int)).length = 256 := List.length_replicate ..
  have h3 := spl_length (List.replicate 256 (0 : Int)) 4 hb (by omega)
  rw [spl_length _ _ _ (by omega), h3, h0]

def impl_page_bytes.T2 : Bool × List (List Nat × List Nat) := (true, [([], []), ([0], [0]), ([], []), ([2], [2]), ([3], [3]), ([1, 4, 4], [1, 4])])
def impl_page_bytes.B2 : List Nat := [0, 1, 0, 4, 12, 31]
theorem impl_page_bytes.tab2 : rtab .any (opsOf Try.f80 2) = impl_page_bytes.T2 := by kernel_rfl
theorem impl_page_bytes.bits2 : waitsOk impl_page_bytes.T2.2 impl_page_bytes.B2 = true := by kernel_rfl
def impl_page_bytes.T3 : Bool × List (List Nat × List Nat) := (true, [([], []), ([0], [0]), ([], []), ([2], [2]), ([1, 3], [1, 3])])
def impl_page_bytes.B3 : List Nat := [0, 1, 0, 4, 15]
theorem impl_page_bytes.tab3 : rtab .any (opsOf Try.f80 3) = impl_page_bytes.T3 := by kernel_rfl
theorem impl_page_bytes.bits3 : waitsOk impl_page_bytes.T3.2 impl_page_bytes.B3 = true := by kernel_rfl
set_option maxHeartbeats 4000000 in
set_option maxRecDepth 100000 in
theorem impl_page_bytes.calls (k : Nat) (a0 a1 a2 : Int) (A3 : Option Addr) (c3 : Nat) (l3 : List Int) (r : List Int) (w : World) (hr3 : Kd.C (Kd.int .u8) w A3 l3.length l3) (hc3 : l3.length ≤ c3) (h : impl_page_bytes.f k a0 a1 a2 l3 = some r) :
    Calls Try.prog 80 #[.agg #[.int .i64 a0, .int .i64 a1, .int .i64 a2, .slice A3 l3.length c3]] w fun e w' => ∃ v0_ : Value, e = .returned (v0_) ∧ Kd.R (Kd.int .u8) 5 w' w.heap.size (fun _ => True) v0_ r ∧ Below w.heap.size w w' := by
  have hu102 := Try.underlying102
  have hu100 := Try.underlying100
  unfold impl_page_bytes.f at h
  obtain ⟨hb, H1, h⟩ := Option.bind_eq_some_iff.mp h
  split at h
  case isFalse => cases h
  rename_i hb252
  split at h
  case isFalse => cases h
  rename_i hl240
  obtain ⟨crc, H2, h⟩ := Option.bind_eq_some_iff.mp h
  obtain ⟨lb, H3, h⟩ := Option.bind_eq_some_iff.mp h
  split at h
  case isFalse => cases h
  rename_i hlb
  obtain rfl := Option.some.inj h
  clear h
  have A1 := Aside0.mk H1
  have A2 := Aside0.mk H2
  have A3' := Aside0.mk H3
  clear H1 H2 H3
  have HR3 := Aside0.mk hr3
  have HC3 := Aside0.mk hc3
  clear hr3 hc3
  have L1 := Aside0.mk hb252
  have L2 := Aside0.mk hl240
  have L3 := Aside0.mk hlb
  clear hb252 hl240 hlb
  obtain ⟨i0, hi0, _, hsz0, _⟩ := info_parts info5
  have HI := Aside0.mk hi0
  have HZ := Aside0.mk hsz0
  clear hi0 hsz0
  go_enter Try.func80, Try.ntmps80
  go_wp2_with (first | ((with_reducible refine gate_dst (N := 1) rfl ?_); refine box_event ?hg (N := 1) ?hd (cs := #[.int .i64 a0, .int .i64 a1, .int .i64 a2, .slice A3 l3.length c3]) (t := 102) ?hr ?_; (case hd => rfl); (case hg => rfl); (case hr => first | (go_simp; done) | (go_simp; rfl)); intro gb hgb w6 hbox hbel; have BK := Aside0.mk hbox; have HB := Aside0.mk hbel; have GB := Aside0.mk hgb; clear hbox hbel hgb) | ((with_reducible refine gate_dst (N := 4) rfl ?_); refine Kd.R_make (Kd.int .u8) _ 5 rfl (N := 4) rfl 22 _ _ rfl 256 rfl rfl Try.underlying22 (.int .u8 0) 1 info5 rfl (by decide) (by omega) 0 (ok := fun _ => True) (okp := fun _ => True) rfl (fun _ hk => hk) trivial (by decide) (by decide) (Below.refl _ _) (Nat.le_refl _) ?_; intro v7 w7 ho7 hb7 hg7 hn7; have HM := Aside0.mk ho7; have HM2 := Aside0.mk hb7; clear ho7 hb7 hg7 hn7; obtain ⟨g, cap, ev, _, _, _⟩ := Kd.R_form HM.out (by decide); subst ev; rw [show (List.replicate (256 : Int).toNat (0 : Int)).length = 256 from rfl] at HM ⊢))
  have HGB : Aside0 (w6.heap.size ≤ g) := ⟨Kd.R_base HM.out g rfl⟩
  have HCAP : Aside0 (256 ≤ cap) := ⟨(Kd.R_reads' HM.out).2.1⟩
  have HSZ : Aside0 (w.heap.size ≤ w6.heap.size) := ⟨HB.out.size⟩
  have HGW : Aside0 (w.heap.size ≤ g) := ⟨Nat.le_trans HB.out.size HGB.out⟩
  have HB7 := Aside0.mk (below_step HB.out HM2.out)
  have BK7 := Aside0.mk (blk_below BK.out HM2.out)
  have hgne : Aside0 (gb ≠ g) := ⟨by have := HGB.out; have := blk_lt BK.out; omega⟩
  clear HB BK HM2
  have hsl4 : ∀ W, (Instr.slice 22 (.slice (some ⟨g, 0, none⟩) 256 cap) (some (.int .i64 4)) none none).run Try.prog W = .ok (.slice (some ⟨g, 4, none⟩) 252 (cap - 4)) W := cut_own 22 5 Try.underlying22 HI.out HZ.out g 256 cap 4 (by decide) (by have := HCAP.out; omega)
  have hsl16 : ∀ W, (Instr.slice 22 (.slice (some ⟨g, 0, none⟩) 256 cap) (some (.int .i64 16)) none none).run Try.prog W = .ok (.slice (some ⟨g, 16, none⟩) 240 (cap - 16)) W := cut_own 22 5 Try.underlying22 HI.out HZ.out g 256 cap 16 (by decide) (by have := HCAP.out; omega)
  refine start_ (n := 6) (S := fun w' => w'.heap[gb]? = some (.cells #[.int .i64 a0, .int .i64 a1, .int .i64 a2, .slice A3 l3.length c3] 102 (0, 0))) (ds := []) #[false, false, false, false, false, false] (by kernel_rfl) rfl rfl (BK7.out) (fun hHeld => ?_); refine with_tabW impl_page_bytes.tab2 impl_page_bytes.bits2 (fun HT_ HW_ => ?_)
  have HM8 : Aside0 (Kd.R (Kd.int .u8) 5 w7.drew w6.heap.size (fun _ => True) (.slice (some ⟨g, 0, none⟩) 256 cap) (List.replicate (256 : Int).toNat 0)) := ⟨Kd.R_drew HM.out⟩
  have HB8 : Aside0 (Below w.heap.size w w7.drew) := ⟨below_drew1 HB7.out⟩
  clear HM HB7 BK7
  generalize w7.drew = w8 at HM8 HB8 hHeld ⊢
  refine pure_ (i := 0) (N := some 5) (v := ?_) (a' := ?_) #[true, false, false, false, false, false] rfl rfl (any_of HT_.out (by kernel_rfl)) (fun _ _ _ h => h) (Or.inl ⟨by rfl, ?_⟩) ?_ ?_
  rotate_left
  · intro w'
    go_simp
    with_reducible rfl
  rotate_left
  · simp only [Act.put, List.setIfInBounds_toArray, List.set_cons_zero, List.set_cons_succ, i64_w, i32_w]
    rfl
  refine pure_ (i := 1) (N := some 6) (v := ?_) (a' := ?_) #[true, true, false, false, false, false] rfl rfl (any_of HT_.out (by kernel_rfl)) (fun _ _ _ h => h) (Or.inl ⟨by rfl, ?_⟩) ?_ ?_
  rotate_left
  · intro w'
    go_simp
    with_reducible rfl
  rotate_left
  · simp only [Act.put, List.setIfInBounds_toArray, List.set_cons_zero, List.set_cons_succ, i64_w, i32_w]
    rfl
  refine pure_ (i := 2) (N := some 7) (v := ?_) (a' := ?_) #[true, true, true, false, false, false] rfl rfl (any_of HT_.out (by kernel_rfl)) (fun _ _ _ h => h) (Or.inl ⟨by rfl, ?_⟩) ?_ ?_
  rotate_left
  · intro w'
    go_simp
    with_reducible rfl
  rotate_left
  · simp only [Act.put, List.setIfInBounds_toArray, List.set_cons_zero, List.set_cons_succ, i64_w, i32_w]
    rfl
  refine take_ (i := 3) (N := some 8) (v := ?_) (a' := ?_) #[true, true, true, true, false, false] rfl rfl (take_ofW HT_.out HW_.out (by kernel_rfl)) (fun _ _ _ h => h) (Or.inl ⟨by rfl, ?_⟩) hHeld ?_ ?_
  rotate_left
  · intro w' s0
    have hc0_ : w'.cell? ⟨gb, 0, none⟩ = some (.int .i64 a0) := (blk_cell s0 0).trans rfl
    have hc1_ : w'.cell? ⟨gb, 1, none⟩ = some (.int .i64 a1) := (blk_cell s0 1).trans rfl
    have hc2_ : w'.cell? ⟨gb, 2, none⟩ = some (.int .i64 a2) := (blk_cell s0 2).trans rfl
    clear s0
    go_simp
    with_reducible rfl
  rotate_left
  · simp only [Act.put, List.setIfInBounds_toArray, List.set_cons_zero, List.set_cons_succ, i64_w, i32_w]
    rfl
  refine one_ (i := 4) (N := some 9) #[true, true, true, true, true, false] rfl rfl (one_of HT_.out (by kernel_rfl)) (by decide) (fun K hK => ?_)
  refine goes_ Try.func134 (by kernel_rfl) rfl #[.agg #[.int .i64 a0, .int .i64 a1, .int .i64 a2]] (by rfl) rfl rfl (by first | rfl | (simp only [List.map_toArray, List.map_cons, List.map_nil]; first | done | rfl)) ?_
  refine (impl_head_bytes.calls k a0 a1 a2 hb _ A1.out).mono ?_
  rintro e w9 ⟨v9, rfl, hv9, hb9⟩
  refine ⟨_, rfl, ?_⟩
  have HM9 := Aside0.mk (Kd.R_below HM8.out hb9)
  have HB9 := Aside0.mk (below_step HB8.out hb9)
  have HV9 := Aside0.mk hv9
  have HD9 := Aside0.mk (hb9.block gb (blk_lt hHeld) |>.trans hHeld)
  have HN9 : Aside0 (g < w8.heap.size) := ⟨Kd.R_lt HM8.out g rfl⟩
  clear hHeld hb9 hv9 HM8 HB8
  obtain ⟨A9, c9, ev9⟩ := Kd.V_slice HV9.out
  subst ev9
  refine hK.out _ _ (HD9.out) (fun hHeld => ?_)
  clear hK K
  refine norm_ (a' := ?_) ?_ ?_
  rotate_left
  · show Act.put _ (some 9) _ = _
    simp only [Act.put, List.setIfInBounds_toArray, List.set_cons_zero, List.set_cons_succ, i64_w, i32_w]
    rfl
  refine one_ (i := 5) (N := some 10) #[true, true, true, true, true, true] rfl rfl (one_of HT_.out (by kernel_rfl)) (by decide) (fun K hK => ?_)
  obtain ⟨w10, hrun10, hR10, hG10⟩ := run_copy_at (P := Try.prog) 22 22 3 5 Try.underlying22 (by kernel_rfl) w9 (off := 4) (xs := List.replicate (256 : Int).toNat 0) (ys := hb) (A := A9) (dA := some ⟨g, 4, none⟩) (c := c9) (dc := cap - 4) HM9.out (Kd.V_reads' HV9.out).2.2 (by have := L1.out; show 4 + hb.length ≤ 256; omega) (fun _ => rfl)
  refine copy_step (by rfl) rfl (.tmp 6) (.tmp 9) 22 22 rfl _ _ _ rfl rfl hrun10 ?_
  have HM10 := Aside0.mk hR10
  have HB10 := Aside0.mk (HB9.out.grown hG10 HB9.out.size (by intro q hq; cases hq; exact HGW.out))
  have HD10 := Aside0.mk (blk_grown HD9.out hG10 (by intro e; exact hgne.out (Option.some.inj e)))
  clear HM9 HB9 HD9 HV9 hrun10 hR10 hG10
  refine hK.out _ _ (HD10.out) (fun hHeld => ?_)
  clear hK K
  refine norm_ (a' := ?_) ?_ ?_
  rotate_left
  · show Act.put _ (some 10) _ = _
    simp only [Act.put, List.setIfInBounds_toArray, List.set_cons_zero, List.set_cons_succ, i64_w, i32_w]
    rfl
  refine done_ (done_of HT_.out (by kernel_rfl)) ?_

  try clear hHeld
  go_wp2_with fail
  have hsl16' := hsl16
  refine start_ (n := 5) (S := fun w' => w'.heap[gb]? = some (.cells #[.int .i64 a0, .int .i64 a1, .int .i64 a2, .slice A3 l3.length c3] 102 (0, 0))) (ds := []) #[false, false, false, false, false] (by kernel_rfl) rfl rfl (HD10.out) (fun hHeld => ?_); refine with_tabW impl_page_bytes.tab3 impl_page_bytes.bits3 (fun HT_ HW_ => ?_)
  have HM11 : Aside0 (Kd.R (Kd.int .u8) 5 w10.drew w6.heap.size (fun _ => True) (.slice (some ⟨g, 0, none⟩) 256 cap) (spl (List.replicate (256 : Int).toNat 0) 4 hb)) := ⟨Kd.R_drew HM10.out⟩
  have HB11 : Aside0 (Below w.heap.size w w10.drew) := ⟨below_drew1 HB10.out⟩
  clear HM10 HB10 HD10
  generalize w10.drew = w11 at HM11 HB11 hHeld ⊢
  refine pure_ (i := 0) (N := some 11) (v := ?_) (a' := ?_) #[true, false, false, false, false] rfl rfl (any_of HT_.out (by kernel_rfl)) (fun _ _ _ h => h) (Or.inl ⟨by rfl, ?_⟩) ?_ ?_
  rotate_left
  · intro w'
    go_simp
    with_reducible rfl
  rotate_left
  · simp only [Act.put, List.setIfInBounds_toArray, List.set_cons_zero, List.set_cons_succ, i64_w, i32_w]
    rfl
  refine pure_ (i := 1) (N := some 12) (v := ?_) (a' := ?_) #[true, true, false, false, false] rfl rfl (any_of HT_.out (by kernel_rfl)) (fun _ _ _ h => h) (Or.inl ⟨by rfl, ?_⟩) ?_ ?_
  rotate_left
  · intro w'
    go_simp
    with_reducible rfl
  rotate_left
  · simp only [Act.put, List.setIfInBounds_toArray, List.set_cons_zero, List.set_cons_succ, i64_w, i32_w]
    rfl
  refine pure_ (i := 2) (N := some 13) (v := ?_) (a' := ?_) #[true, true, true, false, false] rfl rfl (any_of HT_.out (by kernel_rfl)) (fun _ _ _ h => h) (Or.inl ⟨by rfl, ?_⟩) ?_ ?_
  rotate_left
  · intro w'
    go_simp
    with_reducible rfl
  rotate_left
  · simp only [Act.put, List.setIfInBounds_toArray, List.set_cons_zero, List.set_cons_succ, i64_w, i32_w]
    rfl
  refine take_ (i := 3) (N := some 14) (v := ?_) (a' := ?_) #[true, true, true, true, false] rfl rfl (take_ofW HT_.out HW_.out (by kernel_rfl)) (fun _ _ _ h => h) (Or.inl ⟨by rfl, ?_⟩) hHeld ?_ ?_
  rotate_left
  · intro w' s0
    have hc3_ : w'.cell? ⟨gb, 3, none⟩ = some (.slice A3 l3.length c3) := (blk_cell s0 3).trans rfl
    clear s0
    go_simp
    with_reducible rfl
  rotate_left
  · simp only [Act.put, List.setIfInBounds_toArray, List.set_cons_zero, List.set_cons_succ, i64_w, i32_w]
    rfl
  refine one_ (i := 4) (N := some 15) #[true, true, true, true, true] rfl rfl (one_of HT_.out (by kernel_rfl)) (by decide) (fun K hK => ?_)
  have hx11 : (spl (List.replicate (256 : Int).toNat 0) 4 hb).length = 256 := spl_length _ _ _ (by have := L1.out; show 4 + hb.length ≤ 256; omega)
  have hm11 := HM11.out
  rw [show (256 : Nat) = (spl (List.replicate (256 : Int).toNat 0) 4 hb).length from hx11.symm] at hm11
  obtain ⟨w12, hrun12, hR12, hG12⟩ := run_copy_at (P := Try.prog) 22 22 3 5 Try.underlying22 (by kernel_rfl) w11 (off := 16) (ys := l3) (A := A3) (dA := some ⟨g, 16, none⟩) (c := c3) (dc := cap - 16) hm11 (Kd.C_below HR3.out HB11.out) (by have := L2.out; rw [hx11]; omega) (fun _ => rfl)
  rw [hx11] at hrun12 hR12
  refine copy_step (by rfl) rfl (.tmp 12) (.tmp 14) 22 22 rfl _ _ _ rfl rfl hrun12 ?_
  have HM12 := Aside0.mk hR12
  have HB12 := Aside0.mk (HB11.out.grown hG12 HB11.out.size (by intro q hq; cases hq; exact HGW.out))
  have HD12 := Aside0.mk (blk_grown hHeld hG12 (by intro e; exact hgne.out (Option.some.inj e)))
  clear HM11 HB11 hHeld hrun12 hR12 hG12 hx11 hm11
  refine hK.out _ _ (HD12.out) (fun hHeld => ?_)
  clear hK K
  refine norm_ (a' := ?_) ?_ ?_
  rotate_left
  · show Act.put _ (some 15) _ = _
    simp only [Act.put, List.setIfInBounds_toArray, List.set_cons_zero, List.set_cons_succ, i64_w, i32_w]
    rfl
  refine done_ (done_of HT_.out (by kernel_rfl)) ?_
  try clear hHeld
  have hPL : Aside0 ((pageRest hb l3).length = 256) := ⟨pageRest_length hb l3 L1.out L2.out⟩
  have HM13 : Aside0 (Kd.R (Kd.int .u8) 5 w12 w6.heap.size (fun _ => True) (.slice (some ⟨g, 0, none⟩) 256 cap) (pageRest hb l3)) := HM12
  clear HM12
  have HC13 : Aside0 (Kd.C (Kd.int .u8) w12 (some ⟨g, 4, none⟩) ((pageRest hb l3).drop 4).length ((pageRest hb l3).drop 4)) := ⟨by
    have h1 := (Kd.R_reads' HM13.out).2.2
    have h2 := Kd.C_drop (c := cap) h1 (m := 4) (by have := hPL.out; omega) (by have := hPL.out; have := HCAP.out; omega)
    rw [if_neg (by have := HCAP.out; omega)] at h2
    exact h2⟩
  have hdl : ((pageRest hb l3).drop 4).length = 252 := by rw [List.length_drop, hPL.out]
  have HDL := Aside0.mk hdl
  clear hdl
  go_wp2_with fail
  have hcr := impl_Crc32.calls k (some ⟨g, 4, none⟩) (cap - 4) ((pageRest hb l3).drop 4) crc w12 HC13.out (by have := HDL.out; have := HCAP.out; omega) A2.out
  rw [HDL.out] at hcr
  refine hcr.mono ?_
  clear hcr
  rintro e w13 ⟨rfl, hd13⟩
  have HM14 := Aside0.mk (Kd.R_below HM13.out hd13.below)
  have HB14 := Aside0.mk (below_step HB12.out hd13.below)
  clear HM13 HC13 HB12 hd13 HD12
  go_wp2_with fail
  refine (impl_low.calls k crc 4 lb w13 A3'.out).mono ?_
  rintro e w14 ⟨v14, rfl, ho14, hb14⟩
  have HM15 := Aside0.mk (Kd.R_below HM14.out hb14)
  have HB15 := Aside0.mk (below_step HB14.out hb14)
  have HO15 := Aside0.mk ho14
  clear HM14 HB14 ho14 hb14
  obtain ⟨A15, c15, ev15⟩ := Kd.R_slice HO15.out
  subst ev15
  obtain ⟨w16, hrun16, hR16, hG16⟩ : ∃ w1, (Builtin.copy_ #[22, 22] 3 #[.slice (some ⟨g, 0, none⟩) 256 cap, .slice A15 lb.length c15]).run Try.prog w14 = .ok (.int .i64 (lb.length : Int)) w1 ∧
      Kd.R (Kd.int .u8) 5 w1 w6.heap.size (fun _ => True) (.slice (some ⟨g, 0, none⟩) 256 cap) (spl (pageRest hb l3) 0 lb) ∧ w14.grownBy w1 (some g) := by
    have hm := HM15.out
    rw [show (256 : Nat) = (pageRest hb l3).length from hPL.out.symm] at hm ⊢
    have hq := run_copy_at (P := Try.prog) 22 22 3 5 Try.underlying22 (by kernel_rfl) w14 (off := 0) (ys := lb) (dc := cap) (c := c15) (dA := some ⟨g, 0, none⟩) hm (Kd.R_reads' HO15.out).2.2 (by have := L3.out; have := hPL.out; omega) (fun _ => rfl)
    rw [Nat.sub_zero] at hq
    with_reducible exact hq
  have HM16 := Aside0.mk hR16
  have HB16 := Aside0.mk (HB15.out.grown hG16 HB15.out.size (by intro q hq; cases hq; exact HGW.out))
  have HRUN := Aside0.mk hrun16
  clear HM15 HB15 HO15 hR16 hG16 hrun16
  go_wp2_with ((with_reducible refine gate_dst (N := 21) rfl ?_); refine copy_list rfl (.tmp 16) (.tmp 20) 22 22 rfl _ _ _ rfl rfl HRUN.out ?_)
  go_ret
  exact ⟨_, rfl, Kd.R_lower HM16.out HSZ.out, HB16.out⟩
end Go.Proofs.Ytlopmffdebhpfaa.G

/-! ## G130 -/
namespace Go.Proofs.Ytlopmffdebhpfaa.G
open Go.RowKit Go.Proofs.YtlopmffdebhpfaaW.PrintWords Go.Proofs.YtlopmffdebhpfaaW.PrintLast Go.Proofs.YtlopmffdebhpfaaW.PrintMore
attribute [local go_sem] max2_int min2_int max_two min_two max_three min_three max_four min_four
set_option linter.unusedVariables false
set_option linter.unusedSimpArgs false

/-! ### impl_numberAt: function 130 -/
def impl_numberAt.l0 : Nat → Int → List Int → Int → Int → Option (Int)
  | 0, _, _, _, _ => none
  | k + 1, x3, x6, x7, x8 => if x8 < x7 then (if 0 ≤ x8 then (if x8 < (x6.length : Int) then (if 0 ≤ (wrap64 (8 * x8)) then (impl_numberAt.l0 k (Go.bits .or .i64 x3 (shl .i64 (wrap64 (rd x6 x8)) (wrap64 (8 * x8)))) x6 x7 (wrap64 (x8 + 1))) else (none)) else (none)) else (none)) else (some x3)
def impl_numberAt.f (k : Nat) (l0 : List Int) : Option (Int) := impl_numberAt.l0 k 0 l0 (l0.length : Int) 0
set_option maxRecDepth 100000 in
theorem impl_numberAt.mono_l : ∀ k, (∀ y0 y1 y2 y3, LeO (impl_numberAt.l0 k y0 y1 y2 y3) (impl_numberAt.l0 (k + 1) y0 y1 y2 y3))
  | 0 => fun _ _ _ _ r h => by simp [impl_numberAt.l0] at h
  | k + 1 => by
    have ih0 := impl_numberAt.mono_l k
    · intro y0 y1 y2 y3
      unfold impl_numberAt.l0
      repeat' first
      | (with_reducible exact ih0 _ _ _ _)
      | (with_reducible exact LeO.refl _)
      | (with_reducible exact LeO.none _)
      | (with_reducible refine LeO.ite ?_ ?_)
      | (with_reducible refine LeO.bind ?_ (fun _ => ?_))
      | exact ih0 _ _ _ _
      | exact LeO.none _
      | refine LeO.ite ?_ ?_
      | refine LeO.bind ?_ (fun _ => ?_)
set_option maxRecDepth 100000 in
theorem impl_numberAt.mono : ∀ a0 k, LeO (impl_numberAt.f k a0) (impl_numberAt.f (k + 1) a0) := by
  intro a0 k
  have ih0 := impl_numberAt.mono_l k
  unfold impl_numberAt.f
  repeat' first
      | (with_reducible exact ih0 _ _ _ _)
      | (with_reducible exact LeO.refl _)
      | (with_reducible exact LeO.none _)
      | (with_reducible refine LeO.ite ?_ ?_)
      | (with_reducible refine LeO.bind ?_ (fun _ => ?_))
      | exact ih0 _ _ _ _
      | exact LeO.none _
      | refine LeO.ite ?_ ?_
      | refine LeO.bind ?_ (fun _ => ?_)
set_option maxHeartbeats 8000000 in
set_option maxRecDepth 100000 in
theorem impl_numberAt.calls (k : Nat) (A0 : Option Addr) (c0 : Nat) (l0 : List Int) (r : Int) (w : World) (hr0 : Kd.C (Kd.int .u8) w A0 l0.length l0) (hc0 : l0.length ≤ c0) (h : impl_numberAt.f k l0 = some r) :
    Calls Try.prog 130 #[.slice A0 l0.length c0] w fun e w' => e = .returned (.int .i64 r) ∧ Drawn0 w w' := by
  have HR0 := Aside0.mk hr0
  have HC0 := Aside0.mk hc0
  clear hr0 hc0
  have H : (impl_numberAt.l0 k 0 l0 (l0.length : Int) 0) = some r := h
  clear h
  have H' := Aside0.mk H
  clear H
  go_enter Try.func130, Try.ntmps130
  go_wp2
  go_loopg [3, 8] k (fun kq v3 v8 w' => ∃ (x3_1 : Int) (x8_1 : Int), v3 = .int .i64 x3_1 ∧ v8 = .int .i64 x8_1 ∧ Aside0 (impl_numberAt.l0 kq x3_1 l0 (l0.length : Int) x8_1 = some r) ∧ Aside0 (kq ≤ k) ∧ Drawn0 w w')
  case atStart => exact ⟨(0), (0), (by first | rfl | (simp; done) | (simp [*]; done)), (by first | rfl | (simp; done) | (simp [*]; done)), H', ⟨Nat.le_refl _⟩, by repeat (first | exact Drawn0.refl _ | apply Drawn0.step)⟩
  case round =>
    clear H'
    try clear c1
    obtain ⟨x3_1, x8_1, rfl, rfl, HA, HK1, ⟨m1, rfl⟩⟩ := hrel
    cases gk with
    | zero => exact absurd HA.out (by simp [impl_numberAt.l0])
    | succ k1 =>
      have H := HA.out
      clear HA
      simp only [impl_numberAt.l0] at H
      by_cases c2 : x8_1 < (l0.length : Int)
      · rw [if_pos c2] at H
        have c2b0 : decide (x8_1 < (l0.length : Int)) = true := decide_eq_true c2
        clear c2
        by_cases c3 : 0 ≤ x8_1
        · rw [if_pos c3] at H
          have c3b0 : decide (0 ≤ x8_1) = true := decide_eq_true c3
          clear c3
          by_cases c4 : x8_1 < (l0.length : Int)
          · rw [if_pos c4] at H
            have c4b0 : decide (x8_1 < (l0.length : Int)) = true := decide_eq_true c4
            clear c4
            obtain ⟨ji5, hji5⟩ : ∃ j_ : Int, (wrap64 (8 * x8_1)) = j_ := ⟨_, rfl⟩
            replace H : (if 0 ≤ (ji5) then (impl_numberAt.l0 k1 (Go.bits .or .i64 x3_1 (shl .i64 (wrap64 (rd l0 x8_1)) (ji5))) l0 (l0.length : Int) (wrap64 (x8_1 + 1))) else (none)) = some r := by first | (rw [hji5] at H; exact H) | (simp only [hji5] at H ⊢; exact H)
            have hji5w : (IntKind.i64.wrap (8 * x8_1)) = ji5 := (i64_w _).trans hji5
            by_cases c6 : 0 ≤ (ji5)
            · rw [if_pos c6] at H
              have c6b0 := eq_true c6
              have c6b1 : decide (0 ≤ (ji5)) = true := decide_eq_true c6
              clear c6
              obtain ⟨ji7, hji7⟩ : ∃ j_ : Int, (shl .i64 (wrap64 (rd l0 x8_1)) (ji5)) = j_ := ⟨_, rfl⟩
              replace H : (impl_numberAt.l0 k1 (Go.bits .or .i64 x3_1 (ji7)) l0 (l0.length : Int) (wrap64 (x8_1 + 1))) = some r := by first | (rw [hji7] at H; exact H) | (simp only [hji7] at H ⊢; exact H)
              have hji7_ : (IntKind.i64.wrap ((wrap64 (rd l0 x8_1)) * 2 ^ min (ji5).toNat 64)) = ji7 := hji7
              have hji7z : (ji5) ≤ 64 → (IntKind.i64.wrap ((wrap64 (rd l0 x8_1)) * 2 ^ (ji5).toNat)) = ji7 := shl_small hji7
              have hji7y : (wrap64 ((wrap64 (rd l0 x8_1)) * 2 ^ min (ji5).toNat 64)) = ji7 := (i64_w _).symm.trans hji7_
              have hji7x : (ji5) ≤ 64 → (wrap64 ((wrap64 (rd l0 x8_1)) * 2 ^ (ji5).toNat)) = ji7 := fun h_ => (i64_w _).symm.trans (hji7z h_)
              have H' := Aside0.mk H
              clear H
              have p450 : 0 ≤ (x8_1 : Int) := of_decide_eq_true (by first | (with_reducible assumption) | assumption)
              have q450 : x8_1 < (l0.length : Int) := of_decide_eq_true (by first | (with_reducible assumption) | assumption)
              obtain ⟨ad450, e450, hx450_0⟩ := Kd.at_int HR0.out x8_1 p450 q450
              cases e450
              replace p450 := eq_true p450
              replace q450 := eq_true q450
              go_wp2
              go_roundg k1
              case measure => have := HK1.out; omega
              case rel => exact ⟨(Go.bits .or .i64 x3_1 (ji7)), (wrap64 (x8_1 + 1)), (by first | rfl | (simp; done) | (simp only [← hji7] <;> (first | rfl | simp)) | (simp [*]; done)), (by first | rfl | (simp; done) | (simp [*]; done)), H', ⟨by have := HK1.out; omega⟩, by repeat (first | exact Drawn0.refl _ | apply Drawn0.step)⟩
            · rw [if_neg c6] at H
              exact absurd H (by simp)
          · rw [if_neg c4] at H
            exact absurd H (by simp)
        · rw [if_neg c3] at H
          exact absurd H (by simp)
      · rw [if_neg c2] at H
        have c2b0 : decide (x8_1 < (l0.length : Int)) = false := decide_eq_false c2
        clear c2
        obtain rfl := Option.some.inj H
        go_wp2
        go_ret
        exact ⟨by first | rfl | (simp; done) | (simp [*]; done), by repeat (first | exact Drawn0.refl _ | apply Drawn0.step)⟩

end Go.Proofs.Ytlopmffdebhpfaa.G

/-! ## G79 -/
namespace Go.Proofs.Ytlopmffdebhpfaa.G
open Go.RowKit Go.Proofs.YtlopmffdebhpfaaW.PrintWords Go.Proofs.YtlopmffdebhpfaaW.PrintLast Go.Proofs.YtlopmffdebhpfaaW.PrintMore
attribute [local go_sem] max2_int min2_int max_two min_two max_three min_three max_four min_four
set_option linter.unusedVariables false
set_option linter.unusedSimpArgs false

/-! ### impl_head_valid: function 79 -/
def impl_head_valid.f (a0_0 : Int) (a0_1 : Int) (a0_2 : Int) : Option (Bool) := if a0_0 ≥ 0 then (if a0_0 ≤ 1023 then (if a0_1 ≥ 1 then (if a0_1 ≤ 4 then (some (decide (a0_2 ≤ 240))) else (some false)) else (some false)) else (some false)) else (some false)
set_option maxHeartbeats 8000000 in
set_option maxRecDepth 100000 in
theorem impl_head_valid.calls (a0_0 : Int) (a0_1 : Int) (a0_2 : Int) (r : Bool) (w : World) (h : impl_head_valid.f a0_0 a0_1 a0_2 = some r) :
    Calls Try.prog 79 #[.agg #[.int .i64 a0_0, .int .i64 a0_1, .int .i64 a0_2]] w fun e w' => e = .returned (.bool r) ∧ Below w.heap.size w w' := by
  have hu100 := Try.underlying100
  have HB := Aside0.mk (Below.refl w.heap.size w)
  have H : (if a0_0 ≥ 0 then (if a0_0 ≤ 1023 then (if a0_1 ≥ 1 then (if a0_1 ≤ 4 then (some (decide (a0_2 ≤ 240))) else (some false)) else (some false)) else (some false)) else (some false)) = some r := h
  clear h
  by_cases c2 : a0_0 ≥ 0
  · rw [if_pos c2] at H
    have c2b0 : decide (0 ≤ a0_0) = true := decide_eq_true c2
    clear c2
    by_cases c3 : a0_0 ≤ 1023
    · rw [if_pos c3] at H
      have c3b0 : decide (a0_0 ≤ 1023) = true := decide_eq_true c3
      clear c3
      by_cases c4 : a0_1 ≥ 1
      · rw [if_pos c4] at H
        have c4b0 : decide (1 ≤ a0_1) = true := decide_eq_true c4
        clear c4
        by_cases c5 : a0_1 ≤ 4
        · rw [if_pos c5] at H
          have c5b0 : decide (a0_1 ≤ 4) = true := decide_eq_true c5
          clear c5
          obtain rfl := Option.some.inj H
          go_enter Try.func79, Try.ntmps79
          go_wp2_with (first | ((with_reducible refine gate_dst (N := 1) rfl ?_); refine box_event ?hg (N := 1) ?hd (cs := #[.int .i64 a0_0, .int .i64 a0_1, .int .i64 a0_2]) (t := 100) ?hr ?_; (case hd => rfl); (case hg => rfl); (case hr => first | (go_simp; done) | (go_simp; rfl)); intro gb729 hg w6 hbox hb; have n0_ := Aside0.mk (below_step (by repeat (first | (with_reducible first | exact HB.out | apply below_alloc | apply pw_below_drewN | apply below_drew1) | exact HB.out)) hb); have n1_ := Aside0.mk (hbox); have n2_ := Aside0.mk ((by rw [hg]; exact (below_size (by repeat (first | (with_reducible first | exact HB.out | apply below_alloc | apply pw_below_drewN | apply below_drew1) | exact HB.out))) : w.heap.size ≤ gb729)); have n3_ := Aside0.mk ((by rw [hg]; exact (below_size (by repeat (first | (with_reducible first | exact HB.out | apply below_alloc | apply pw_below_drewN | apply below_drew1) | exact HB.out))) : w.heap.size ≤ gb729)); clear HB; have HB := n0_; have BK729 := n1_; have GW729 := n2_; have GE729 := n3_; clear n0_ n1_ n2_ n3_; clear hb hbox hg; have hcz7_0 : w6.cell? ⟨gb729, 0, none⟩ = some (.int .i64 a0_0) := (blk_cell BK729.out 0).trans rfl; have hcz7_1 : w6.cell? ⟨gb729, 1, none⟩ = some (.int .i64 a0_1) := (blk_cell BK729.out 1).trans rfl; have hcz7_2 : w6.cell? ⟨gb729, 2, none⟩ = some (.int .i64 a0_2) := (blk_cell BK729.out 2).trans rfl; have hfz7_0 := blk_frozen BK729.out 0; have hfz7_1 := blk_frozen BK729.out 1; have hfz7_2 := blk_frozen BK729.out 2))
          go_ret
          exact ⟨by first | rfl | (simp [errW_none, errW_some] <;> rfl) | (simp [*, errW_none, errW_some] <;> rfl), by repeat (first | (with_reducible first | exact HB.out | apply below_alloc | apply pw_below_drewN | apply below_drew1 | refine below_set ?_ GE729.out) | exact HB.out)⟩
        · rw [if_neg c5] at H
          have c5b0 : decide (a0_1 ≤ 4) = false := decide_eq_false c5
          clear c5
          obtain rfl := Option.some.inj H
          go_enter Try.func79, Try.ntmps79
          go_wp2_with (first | ((with_reducible refine gate_dst (N := 1) rfl ?_); refine box_event ?hg (N := 1) ?hd (cs := #[.int .i64 a0_0, .int .i64 a0_1, .int .i64 a0_2]) (t := 100) ?hr ?_; (case hd => rfl); (case hg => rfl); (case hr => first | (go_simp; done) | (go_simp; rfl)); intro gb729 hg w8 hbox hb; have n0_ := Aside0.mk (below_step (by repeat (first | (with_reducible first | exact HB.out | apply below_alloc | apply pw_below_drewN | apply below_drew1) | exact HB.out)) hb); have n1_ := Aside0.mk (hbox); have n2_ := Aside0.mk ((by rw [hg]; exact (below_size (by repeat (first | (with_reducible first | exact HB.out | apply below_alloc | apply pw_below_drewN | apply below_drew1) | exact HB.out))) : w.heap.size ≤ gb729)); have n3_ := Aside0.mk ((by rw [hg]; exact (below_size (by repeat (first | (with_reducible first | exact HB.out | apply below_alloc | apply pw_below_drewN | apply below_drew1) | exact HB.out))) : w.heap.size ≤ gb729)); clear HB; have HB := n0_; have BK729 := n1_; have GW729 := n2_; have GE729 := n3_; clear n0_ n1_ n2_ n3_; clear hb hbox hg; have hcz9_0 : w8.cell? ⟨gb729, 0, none⟩ = some (.int .i64 a0_0) := (blk_cell BK729.out 0).trans rfl; have hcz9_1 : w8.cell? ⟨gb729, 1, none⟩ = some (.int .i64 a0_1) := (blk_cell BK729.out 1).trans rfl; have hcz9_2 : w8.cell? ⟨gb729, 2, none⟩ = some (.int .i64 a0_2) := (blk_cell BK729.out 2).trans rfl; have hfz9_0 := blk_frozen BK729.out 0; have hfz9_1 := blk_frozen BK729.out 1; have hfz9_2 := blk_frozen BK729.out 2))
          go_ret
          exact ⟨by first | rfl | (simp [errW_none, errW_some] <;> rfl) | (simp [*, errW_none, errW_some] <;> rfl), by repeat (first | (with_reducible first | exact HB.out | apply below_alloc | apply pw_below_drewN | apply below_drew1 | refine below_set ?_ GE729.out) | exact HB.out)⟩
      · rw [if_neg c4] at H
        have c4b0 : decide (1 ≤ a0_1) = false := decide_eq_false c4
        clear c4
        obtain rfl := Option.some.inj H
        go_enter Try.func79, Try.ntmps79
        go_wp2_with (first | ((with_reducible refine gate_dst (N := 1) rfl ?_); refine box_event ?hg (N := 1) ?hd (cs := #[.int .i64 a0_0, .int .i64 a0_1, .int .i64 a0_2]) (t := 100) ?hr ?_; (case hd => rfl); (case hg => rfl); (case hr => first | (go_simp; done) | (go_simp; rfl)); intro gb729 hg w10 hbox hb; have n0_ := Aside0.mk (below_step (by repeat (first | (with_reducible first | exact HB.out | apply below_alloc | apply pw_below_drewN | apply below_drew1) | exact HB.out)) hb); have n1_ := Aside0.mk (hbox); have n2_ := Aside0.mk ((by rw [hg]; exact (below_size (by repeat (first | (with_reducible first | exact HB.out | apply below_alloc | apply pw_below_drewN | apply below_drew1) | exact HB.out))) : w.heap.size ≤ gb729)); have n3_ := Aside0.mk ((by rw [hg]; exact (below_size (by repeat (first | (with_reducible first | exact HB.out | apply below_alloc | apply pw_below_drewN | apply below_drew1) | exact HB.out))) : w.heap.size ≤ gb729)); clear HB; have HB := n0_; have BK729 := n1_; have GW729 := n2_; have GE729 := n3_; clear n0_ n1_ n2_ n3_; clear hb hbox hg; have hcz11_0 : w10.cell? ⟨gb729, 0, none⟩ = some (.int .i64 a0_0) := (blk_cell BK729.out 0).trans rfl; have hcz11_1 : w10.cell? ⟨gb729, 1, none⟩ = some (.int .i64 a0_1) := (blk_cell BK729.out 1).trans rfl; have hcz11_2 : w10.cell? ⟨gb729, 2, none⟩ = some (.int .i64 a0_2) := (blk_cell BK729.out 2).trans rfl; have hfz11_0 := blk_frozen BK729.out 0; have hfz11_1 := blk_frozen BK729.out 1; have hfz11_2 := blk_frozen BK729.out 2))
        go_ret
        exact ⟨by first | rfl | (simp [errW_none, errW_some] <;> rfl) | (simp [*, errW_none, errW_some] <;> rfl), by repeat (first | (with_reducible first | exact HB.out | apply below_alloc | apply pw_below_drewN | apply below_drew1 | refine below_set ?_ GE729.out) | exact HB.out)⟩
    · rw [if_neg c3] at H
      have c3b0 : decide (a0_0 ≤ 1023) = false := decide_eq_false c3
      clear c3
      obtain rfl := Option.some.inj H
      go_enter Try.func79, Try.ntmps79
      go_wp2_with (first | ((with_reducible refine gate_dst (N := 1) rfl ?_); refine box_event ?hg (N := 1) ?hd (cs := #[.int .i64 a0_0, .int .i64 a0_1, .int .i64 a0_2]) (t := 100) ?hr ?_; (case hd => rfl); (case hg => rfl); (case hr => first | (go_simp; done) | (go_simp; rfl)); intro gb729 hg w12 hbox hb; have n0_ := Aside0.mk (below_step (by repeat (first | (with_reducible first | exact HB.out | apply below_alloc | apply pw_below_drewN | apply below_drew1) | exact HB.out)) hb); have n1_ := Aside0.mk (hbox); have n2_ := Aside0.mk ((by rw [hg]; exact (below_size (by repeat (first | (with_reducible first | exact HB.out | apply below_alloc | apply pw_below_drewN | apply below_drew1) | exact HB.out))) : w.heap.size ≤ gb729)); have n3_ := Aside0.mk ((by rw [hg]; exact (below_size (by repeat (first | (with_reducible first | exact HB.out | apply below_alloc | apply pw_below_drewN | apply below_drew1) | exact HB.out))) : w.heap.size ≤ gb729)); clear HB; have HB := n0_; have BK729 := n1_; have GW729 := n2_; have GE729 := n3_; clear n0_ n1_ n2_ n3_; clear hb hbox hg; have hcz13_0 : w12.cell? ⟨gb729, 0, none⟩ = some (.int .i64 a0_0) := (blk_cell BK729.out 0).trans rfl; have hcz13_1 : w12.cell? ⟨gb729, 1, none⟩ = some (.int .i64 a0_1) := (blk_cell BK729.out 1).trans rfl; have hcz13_2 : w12.cell? ⟨gb729, 2, none⟩ = some (.int .i64 a0_2) := (blk_cell BK729.out 2).trans rfl; have hfz13_0 := blk_frozen BK729.out 0; have hfz13_1 := blk_frozen BK729.out 1; have hfz13_2 := blk_frozen BK729.out 2))
      go_ret
      exact ⟨by first | rfl | (simp [errW_none, errW_some] <;> rfl) | (simp [*, errW_none, errW_some] <;> rfl), by repeat (first | (with_reducible first | exact HB.out | apply below_alloc | apply pw_below_drewN | apply below_drew1 | refine below_set ?_ GE729.out) | exact HB.out)⟩
  · rw [if_neg c2] at H
    have c2b0 : decide (0 ≤ a0_0) = false := decide_eq_false c2
    clear c2
    obtain rfl := Option.some.inj H
    go_enter Try.func79, Try.ntmps79
    go_wp2_with (first | ((with_reducible refine gate_dst (N := 1) rfl ?_); refine box_event ?hg (N := 1) ?hd (cs := #[.int .i64 a0_0, .int .i64 a0_1, .int .i64 a0_2]) (t := 100) ?hr ?_; (case hd => rfl); (case hg => rfl); (case hr => first | (go_simp; done) | (go_simp; rfl)); intro gb729 hg w14 hbox hb; have n0_ := Aside0.mk (below_step (by repeat (first | (with_reducible first | exact HB.out | apply below_alloc | apply pw_below_drewN | apply below_drew1) | exact HB.out)) hb); have n1_ := Aside0.mk (hbox); have n2_ := Aside0.mk ((by rw [hg]; exact (below_size (by repeat (first | (with_reducible first | exact HB.out | apply below_alloc | apply pw_below_drewN | apply below_drew1) | exact HB.out))) : w.heap.size ≤ gb729)); have n3_ := Aside0.mk ((by rw [hg]; exact (below_size (by repeat (first | (with_reducible first | exact HB.out | apply below_alloc | apply pw_below_drewN | apply below_drew1) | exact HB.out))) : w.heap.size ≤ gb729)); clear HB; have HB := n0_; have BK729 := n1_; have GW729 := n2_; have GE729 := n3_; clear n0_ n1_ n2_ n3_; clear hb hbox hg; have hcz15_0 : w14.cell? ⟨gb729, 0, none⟩ = some (.int .i64 a0_0) := (blk_cell BK729.out 0).trans rfl; have hcz15_1 : w14.cell? ⟨gb729, 1, none⟩ = some (.int .i64 a0_1) := (blk_cell BK729.out 1).trans rfl; have hcz15_2 : w14.cell? ⟨gb729, 2, none⟩ = some (.int .i64 a0_2) := (blk_cell BK729.out 2).trans rfl; have hfz15_0 := blk_frozen BK729.out 0; have hfz15_1 := blk_frozen BK729.out 1; have hfz15_2 := blk_frozen BK729.out 2))
    go_ret
    exact ⟨by first | rfl | (simp [errW_none, errW_some] <;> rfl) | (simp [*, errW_none, errW_some] <;> rfl), by repeat (first | (with_reducible first | exact HB.out | apply below_alloc | apply pw_below_drewN | apply below_drew1 | refine below_set ?_ GE729.out) | exact HB.out)⟩

end Go.Proofs.Ytlopmffdebhpfaa.G

/-! ## G131 -/
namespace Go.Proofs.Ytlopmffdebhpfaa.G
open Go.RowKit Go.Proofs.YtlopmffdebhpfaaW.PrintWords Go.Proofs.YtlopmffdebhpfaaW.PrintLast Go.Proofs.YtlopmffdebhpfaaW.PrintMore
attribute [local go_sem] max2_int min2_int max_two min_two max_three min_three max_four min_four
set_option linter.unusedVariables false
set_option linter.unusedSimpArgs false

/-! ### bytes_Equal: function 131 -/
def bytes_Equal.f (l0 : List Int) (l1 : List Int) : Option (Bool) := some ((strOfNums l0).toList == (strOfNums l1).toList)
set_option maxHeartbeats 8000000 in
set_option maxRecDepth 100000 in
theorem bytes_Equal.calls (A0 : Option Addr) (c0 : Nat) (l0 : List Int) (A1 : Option Addr) (c1 : Nat) (l1 : List Int) (r : Bool) (w : World) (hr0 : Kd.C (Kd.int .u8) w A0 l0.length l0) (hc0 : l0.length ≤ c0) (hr1 : Kd.C (Kd.int .u8) w A1 l1.length l1) (hc1 : l1.length ≤ c1) (h : bytes_Equal.f l0 l1 = some r) :
    Calls Try.prog 131 #[.slice A0 l0.length c0, .slice A1 l1.length c1] w fun e w' => e = .returned (.bool r) ∧ Drawn0 w w' := by
  have HR0 := Aside0.mk hr0
  have HC0 := Aside0.mk hc0
  clear hr0 hc0
  have HR1 := Aside0.mk hr1
  have HC1 := Aside0.mk hc1
  clear hr1 hc1
  have H : (some ((strOfNums l0).toList == (strOfNums l1).toList)) = some r := h
  clear h
  obtain rfl := Option.some.inj H
  have hcv3 := Kd.C_string (P := Try.prog) (A := A0) (c := c0) Try.underlying22 Try.underlying5 Try.underlying9 HR0.out
  have hcv4 := Kd.C_string (P := Try.prog) (A := A1) (c := c1) Try.underlying22 Try.underlying5 Try.underlying9 HR1.out
  go_enter Try.func131, Try.ntmps131
  go_wp2
  go_ret
  exact ⟨by first | rfl | (simp; done) | (simp [*]; done), by repeat (first | exact Drawn0.refl _ | apply Drawn0.step)⟩

end Go.Proofs.Ytlopmffdebhpfaa.G

/-! ## Parse -/
namespace Go.Proofs.Ytlopmffdebhpfaa.G
open Go.RowKit Go.Proofs.YtlopmffdebhpfaaW.PrintWords Go.Proofs.YtlopmffdebhpfaaW.PrintLast Go.Proofs.YtlopmffdebhpfaaW.PrintMore
set_option linter.unusedVariables false
set_option linter.unusedSimpArgs false

def errNoPageS : ByteArray := { data := #[110, 111, 32, 115, 117, 99, 104, 32, 112, 97, 103, 101] }
def errFormS : ByteArray := { data := #[110, 111, 32, 112, 97, 103, 101, 32, 111, 102, 32, 116, 104, 105, 115, 32, 105, 100] }
/-- The fault's value: none, no such page, no page of this id. -/
def perr : Nat → Value
  | 0 => .nilIface
  | 1 => .iface 108 (.string { data := #[110, 111, 32, 115, 117, 99, 104, 32, 112, 97, 103, 101] })
  | _ => .iface 108 (.string { data := #[110, 111, 32, 112, 97, 103, 101, 32, 111, 102, 32, 116, 104, 105, 115, 32, 105, 100] })
/-- The fault's number, the head's three numbers, the body. -/
def impl_parsePage.f (k : Nat) (a0 : Int) (l1 : List Int) : Option (Nat × Int × Int × Int × List Int) :=
  if l1.length = 256 then
    (impl_numberAt.f k ((l1.take 12).drop 10)).bind fun sz =>
    (impl_head_valid.f a0 (wrap64 (rd l1 8)) sz).bind fun hv =>
    if hv = true then
      (if 0 ≤ sz ∧ sz ≤ 240 then
        (impl_page_bytes.f k a0 (wrap64 (rd l1 8)) sz ((l1.take (16 + sz).toNat).drop 16)).bind fun pb =>
        (bytes_Equal.f pb l1).bind fun eq => if eq = true then some (0, a0, wrap64 (rd l1 8), sz, (l1.take (16 + sz).toNat).drop 16) else some (2, 0, 0, 0, [])
      else none)
    else some (2, 0, 0, 0, [])
  else some (1, 0, 0, 0, [])
theorem impl_parsePage.mono : ∀ a0 a1 k, LeO (impl_parsePage.f k a0 a1) (impl_parsePage.f (k + 1) a0 a1) := by
  intro a0 a1 k
  unfold impl_parsePage.f
  exact LeO.ite (LeO.bind (impl_numberAt.mono _ _) (fun _ => LeO.bind (LeO.refl _) (fun _ => LeO.ite (LeO.ite (LeO.bind (impl_page_bytes.mono _ _ _ _ _) (fun _ => LeO.refl _)) (LeO.refl _)) (LeO.refl _)))) (LeO.refl _)
theorem results_cell_slot {P : Program} {fn : Func} {p q : Tmp} {ty : TypeId} (h : fn.results = #[.cell p ty, .tmp q]) (tmps : Array Value) (w : World) (g : Nat) (t : TypeId) (cs : Array Value) (fr : Nat × Nat) (d : TypeDesc) (v : Value)
    (hp : tmps.getD p undef = .pointer (some ⟨g, 0, none⟩)) (hv : tmps.getD q undef = v) (hg : w.heap[g]? = some (.cells cs t fr))
    (hu : P.underlying ty = some d) (hd : (match d with | .struct _ | .array _ _ => true | _ => false) = true) (hi : (P.info? ty).map (·.size) = some cs.size) :
    (results fn tmps).run P w = .ok (.tuple #[.agg cs, v]) w := by
  have hp' : tmps[p]?.getD undef = .pointer (some ⟨g, 0, none⟩) := by simpa using hp
  have hv' : tmps[q]?.getD undef = v := by simpa using hv
  simp [results, h, hp', hv', asAddr, run_loadVar_row w g t ty cs fr d hg hu hd hi]

def impl_parsePage.T3 : Bool × List (List Nat × List Nat) := (true, [([], []), ([], []), ([1], [1]), ([2], [2]), ([3], [3]), ([], []), ([5], [5]), ([6], [6]), ([0, 4, 7], [0, 4, 7]), ([], []), ([9, 8, 7, 0, 1, 2, 3, 4, 5, 6, 7, 8, 9], [8, 9])])
def impl_parsePage.B3 : List Nat := [0, 0, 2, 6, 14, 0, 32, 96, 255, 0, 1023]
theorem impl_parsePage.tab3 : rtab .any (opsOf Try.f70 3) = impl_parsePage.T3 := by kernel_rfl
theorem impl_parsePage.bits3 : waitsOk impl_parsePage.T3.2 impl_parsePage.B3 = true := by kernel_rfl
def impl_parsePage.T6 : Bool × List (List Nat × List Nat) := (true, [([], []), ([], []), ([], []), ([2], [2]), ([3], [3]), ([1, 4], [1, 4]), ([0, 5], [0, 5]), ([], []), ([7, 6, 0, 1, 2, 3, 4, 5, 6, 7], [6, 7])])
def impl_parsePage.B6 : List Nat := [0, 0, 0, 4, 12, 30, 63, 0, 255]
theorem impl_parsePage.tab6 : rtab .any (opsOf Try.f70 6) = impl_parsePage.T6 := by kernel_rfl
theorem impl_parsePage.bits6 : waitsOk impl_parsePage.T6.2 impl_parsePage.B6 = true := by kernel_rfl
set_option maxHeartbeats 4000000 in
set_option maxRecDepth 100000 in
theorem impl_parsePage.calls (k : Nat) (a0 : Int) (A1 : Option Addr) (c1 : Nat) (l1 : List Int) (r : Nat × Int × Int × Int × List Int) (w : World) (ok : Nat → Prop) (hF : Kd.F (Kd.int .u8) w ok A1 l1.length l1) (hc1 : l1.length ≤ c1) (h : impl_parsePage.f k a0 l1 = some r) :
    Calls Try.prog 70 #[.int .i64 a0, .slice A1 l1.length c1] w fun e w' => ∃ A c, e = .returned (.tuple #[.agg #[.int .i64 r.2.1, .int .i64 r.2.2.1, .int .i64 r.2.2.2.1, .slice A r.2.2.2.2.length c], perr r.1]) ∧ r.2.2.2.2.length ≤ c ∧ Kd.F (Kd.int .u8) w' ok A r.2.2.2.2.length r.2.2.2.2 ∧ Below w.heap.size w w' := by
  have hu102 := Try.underlying102
  have hu100 := Try.underlying100
  unfold impl_parsePage.f at h
  by_cases hl : l1.length = 256
  case neg =>
    rw [if_neg hl] at h
    obtain rfl := Option.some.inj h
    clear h
    have c3b0 : ((l1.length : Int) == 256) = false := beq_eq_false_iff_ne.mpr (by omega)
    have c3b1 : ((l1.length : Int) != 256) = true := bne_iff_ne.mpr (by omega)
    go_enter Try.func70, Try.ntmps70
    go_wp2_with (first | ((with_reducible refine gate_dst (N := 4) rfl ?_); refine box_event ?hg (N := 4) ?hd (cs := #[.int .i64 0, .int .i64 0, .int .i64 0, .slice none 0 0]) (t := 102) ?hr ?_; (case hd => rfl); (case hg => rfl); (case hr => first | (go_simp; done) | (go_simp; rfl)); intro gr hgr w6 hbox hbel; have BK := Aside0.mk hbox; have HB := Aside0.mk hbel; have GB := Aside0.mk hgr; clear hbox hbel hgr) | ((with_reducible refine gate_ (.store 102 (.tmp 4) (.tmp 11)) rfl ?_); refine store_blk rfl rfl 102 (.tmp 4) (.tmp 11) rfl (off := 0) (u := .agg #[.int .i64 0, .int .i64 0, .int .i64 0, .slice none 0 0]) #[.int .i64 0, .int .i64 0, .int .i64 0, .slice none 0 0] rfl rfl BK.out [.int .i64 0, .int .i64 0, .int .i64 0, .slice none 0 0] rfl (by kernel_rfl) (Nat.le_of_ble_eq_true rfl) rfl rfl ?_; intro w7 hblk hgrw; have BK2 := Aside0.mk hblk; have HB2 := Aside0.mk (HB.out.grown hgrw HB.out.size (by intro q hq; cases hq; exact Nat.le_of_eq GB.out.symm)); clear hblk hgrw))
    refine bodyPost_ret (results_cell_slot rfl _ _ gr 102 #[.int .i64 0, .int .i64 0, .int .i64 0, .slice none 0 0] (0, 0) _ _ rfl rfl BK2.out Try.underlying102 rfl (by kernel_rfl)) rfl ?_
    exact ⟨none, 0, rfl, Nat.le_refl _, Kd.F_nil _ _ _, HB2.out⟩
  rw [if_pos hl] at h
  obtain ⟨sz, H1, h⟩ := Option.bind_eq_some_iff.mp h
  obtain ⟨hv, H2, h⟩ := Option.bind_eq_some_iff.mp h
  have N1 := Aside0.mk H1
  have N2 := Aside0.mk H2
  clear H1 H2
  have H := Aside0.mk h
  clear h
  have c3b0 : ((l1.length : Int) == 256) = true := beq_iff_eq.mpr (by omega)
  have c3b1 : ((l1.length : Int) != 256) = false := bne_eq_false_iff_eq.mpr (by omega)
  have q8a : decide (8 < (l1.length : Int)) = true := decide_eq_true (by omega)
  have q8b : decide (8 < l1.length) = true := decide_eq_true (by omega)
  have q8c : (8 < l1.length) = True := eq_true (by omega)
  have q8d : ((8 : Int) < (l1.length : Int)) = True := eq_true (by omega)
  obtain ⟨ad, rfl, hx8⟩ := Kd.at_int (Kd.F_now hF) 8 (by omega) (by omega)
  (try simp only [show (8 : Int).toNat = 8 from rfl, Nat.reduceMul, Nat.reduceEqDiff, Go.Addr.add, ↓reduceIte] at hx8)
  have HX8 := Aside0.mk hx8
  clear hx8
  obtain ⟨i0, hi0, _, hsz0, _⟩ := info_parts info5
  have HI := Aside0.mk hi0
  have HZ := Aside0.mk hsz0
  clear hi0 hsz0
  have HF := Aside0.mk hF
  have HC := Aside0.mk hc1
  have HL := Aside0.mk hl
  clear hF hc1 hl
  obtain ⟨A2, hcut2, hF2⟩ : ∃ A2, (∀ W : World, (Instr.slice 22 (.slice (some ad) l1.length c1) (some (.int .i64 10)) (some (.int .i64 12)) none).run Try.prog W = .ok (.slice A2 2 (c1 - 10)) W) ∧ Kd.F (Kd.int .u8) w ok A2 ((l1.take 12).drop 10).length ((l1.take 12).drop 10) := by
    refine ⟨_, cut_mid 22 5 .i64 .i64 Try.underlying22 HI.out 1 HZ.out (some ad) l1.length c1 10 12 (by decide) (by decide) (by have := HL.out; omega) HC.out, ?_⟩
    exact Kd.F_mid HF.out (by decide) (by have := HL.out; omega) HC.out
  have hln2 : ((l1.take 12).drop 10).length = 2 := by rw [List.length_drop, List.length_take, HL.out]; rfl
  have HF2 := Aside0.mk hF2
  have HLN := Aside0.mk hln2
  clear hF2 hln2
  go_enter Try.func70, Try.ntmps70
  go_wp2_with (first | ((with_reducible refine gate_dst (N := 4) rfl ?_); refine box_event ?hg (N := 4) ?hd (cs := #[.int .i64 0, .int .i64 0, .int .i64 0, .slice none 0 0]) (t := 102) ?hr ?_; (case hd => rfl); (case hg => rfl); (case hr => first | (go_simp; done) | (go_simp; rfl)); intro gr hgr w6 hbox hbel; have BK := Aside0.mk hbox; have HB := Aside0.mk hbel; have GB := Aside0.mk hgr; clear hbox hbel hgr))
  refine start_ (n := 11) (S := fun w' => w'.heap[gr]? = some (.cells #[.int .i64 0, .int .i64 0, .int .i64 0, .slice none 0 0] 102 (0, 0)) ∧ Below w.heap.size w w') (ds := []) #[false, false, false, false, false, false, false, false, false, false, false] (by kernel_rfl) rfl rfl (⟨blk_drew BK.out, below_drew1 HB.out⟩) (fun hHeld => ?_); refine with_tabW impl_parsePage.tab3 impl_parsePage.bits3 (fun HT_ HW_ => ?_)
  clear BK HB
  refine pure_ (i := 0) (N := some 13) (v := ?_) (a' := ?_) #[true, false, false, false, false, false, false, false, false, false, false] rfl rfl (any_of HT_.out (by kernel_rfl)) (fun _ _ _ h => h) (Or.inl ⟨by rfl, ?_⟩) ?_ ?_
  rotate_left
  · intro w'
    go_simp
    with_reducible rfl
  rotate_left
  · simp only [Act.put, List.setIfInBounds_toArray, List.set_cons_zero, List.set_cons_succ, i64_w, i32_w]
    rfl
  refine pure_ (i := 1) (N := some 14) (v := ?_) (a' := ?_) #[true, true, false, false, false, false, false, false, false, false, false] rfl rfl (any_of HT_.out (by kernel_rfl)) (fun _ _ _ h => h) (Or.inl ⟨by rfl, ?_⟩) ?_ ?_
  rotate_left
  · intro w'
    go_simp
    with_reducible rfl
  rotate_left
  · simp only [Act.put, List.setIfInBounds_toArray, List.set_cons_zero, List.set_cons_succ, i64_w, i32_w]
    rfl
  refine pure_ (i := 2) (N := some 15) (v := ?_) (a' := ?_) #[true, true, true, false, false, false, false, false, false, false, false] rfl rfl (any_of HT_.out (by kernel_rfl)) (fun _ _ _ h => h) (Or.inl ⟨by rfl, ?_⟩) ?_ ?_
  rotate_left
  · intro w'
    go_simp
    with_reducible rfl
  rotate_left
  · simp only [Act.put, List.setIfInBounds_toArray, List.set_cons_zero, List.set_cons_succ, i64_w, i32_w]
    rfl
  refine take_ (i := 3) (N := some 16) (v := ?_) (a' := ?_) #[true, true, true, true, false, false, false, false, false, false, false] rfl rfl (take_ofW HT_.out HW_.out (by kernel_rfl)) (fun _ _ _ h => h) (Or.inl ⟨by rfl, ?_⟩) hHeld ?_ ?_
  rotate_left
  · intro w' s0
    have hc8_ : w'.cell? ⟨ad.block, ad.off + 8, none⟩ = some (.int .u8 (rd l1 8)) := (s0.2.cell (World.block_lt_of_cell? w _ HX8.out)).trans HX8.out
    clear s0
    go_simp
    with_reducible rfl
  rotate_left
  · simp only [Act.put, List.setIfInBounds_toArray, List.set_cons_zero, List.set_cons_succ, i64_w, i32_w]
    rfl
  refine pure_ (i := 4) (N := some 17) (v := ?_) (a' := ?_) #[true, true, true, true, true, false, false, false, false, false, false] rfl rfl (any_of HT_.out (by kernel_rfl)) (fun _ _ _ h => h) (Or.inl ⟨by rfl, ?_⟩) ?_ ?_
  rotate_left
  · intro w'
    go_simp
    with_reducible rfl
  rotate_left
  · simp only [Act.put, List.setIfInBounds_toArray, List.set_cons_zero, List.set_cons_succ, i64_w, i32_w]
    rfl
  refine pure_ (i := 5) (N := some 18) (v := ?_) (a' := ?_) #[true, true, true, true, true, true, false, false, false, false, false] rfl rfl (any_of HT_.out (by kernel_rfl)) (fun _ _ _ h => h) (Or.inl ⟨by rfl, ?_⟩) ?_ ?_
  rotate_left
  · intro w'
    go_simp
    with_reducible rfl
  rotate_left
  · simp only [Act.put, List.setIfInBounds_toArray, List.set_cons_zero, List.set_cons_succ, i64_w, i32_w]
    rfl
  refine pure_ (i := 6) (N := some 19) (v := ?_) (a' := ?_) #[true, true, true, true, true, true, true, false, false, false, false] rfl rfl (any_of HT_.out (by kernel_rfl)) (fun _ _ _ h => h) (Or.inl ⟨by rfl, ?_⟩) ?_ ?_
  rotate_left
  · intro w'
    go_simp
    with_reducible rfl
  rotate_left
  · simp only [Act.put, List.setIfInBounds_toArray, List.set_cons_zero, List.set_cons_succ, i64_w, i32_w]
    rfl
  refine join_ 1 #[true, true, true, true, true, true, true, true, true, true, false] (fun g : Nat => [(20, .int .i64 sz), (21, .agg #[.int .i64 a0, .int .i64 (wrap64 (rd l1 8)), .int .i64 sz]), (6, .pointer (some ⟨g, 0, none⟩))]) (fun g w' => w'.heap[g]? = some (.cells #[.int .i64 0, .int .i64 0, .int .i64 0] 100 (0, 0)) ∧ (w'.heap[gr]? = some (.cells #[.int .i64 0, .int .i64 0, .int .i64 0, .slice none 0 0] 102 (0, 0)) ∧ Below w.heap.size w w') ∧ w.heap.size ≤ g ∧ g ≠ gr) ?_ ?_
  rotate_left
  · intro hK0
    refine two_ (i := 7) (j := 9) (Ni := some 20) (Nj := some 6) #[true, true, true, true, true, true, true, true, false, false, false] #[true, true, true, true, true, true, true, false, false, true, false] rfl rfl rfl rfl (two_of HT_.out (by kernel_rfl)) (by decide) (by decide) (fun K hK => ?_) (fun K hK => ?_)
    · refine goes_ Try.func130 (by kernel_rfl) rfl #[.slice A2 2 (c1 - 10)] (by rfl) rfl rfl (by first | rfl | (simp only [List.map_toArray, List.map_cons, List.map_nil]; first | done | rfl)) ?_
      have hcr := impl_numberAt.calls k A2 (c1 - 10) ((l1.take 12).drop 10) sz _ (Kd.C_below (Kd.F_now HF2.out) hHeld.2) (by have := HLN.out; have := HC.out; have := HL.out; omega) N1.out
      rw [HLN.out] at hcr
      refine hcr.mono ?_
      clear hcr
      rintro e w9 ⟨rfl, hd9⟩
      refine ⟨_, rfl, ?_⟩
      have S9 := Aside0.mk (And.intro (blk_below hHeld.1 hd9.below) (below_step hHeld.2 hd9.below))
      clear hHeld hd9
      refine hK.out _ _ (S9.out) (fun hHeld => ?_)
      clear hK K
      refine norm_ (a' := ?_) ?_ ?_
      rotate_left
      · show Act.put _ (some 20) _ = _
        simp only [Act.put, List.setIfInBounds_toArray, List.set_cons_zero, List.set_cons_succ, i64_w, i32_w]
        rfl
      refine pure_ (i := 8) (N := some 21) (v := ?_) (a' := ?_) #[true, true, true, true, true, true, true, true, true, false, false] rfl rfl (any_of HT_.out (by kernel_rfl)) (fun _ _ _ h => h) (Or.inl ⟨by rfl, ?_⟩) ?_ ?_
      rotate_left
      · intro w'
        go_simp
        with_reducible rfl
      rotate_left
      · simp only [Act.put, List.setIfInBounds_toArray, List.set_cons_zero, List.set_cons_succ, i64_w, i32_w]
        rfl
      refine one_ (i := 9) (N := some 6) #[true, true, true, true, true, true, true, true, true, true, false] rfl rfl (one_of HT_.out (by kernel_rfl)) (by decide) (fun K hK => ?_)
      refine box_step (by rfl) (N := 6) rfl (cs := #[.int .i64 0, .int .i64 0, .int .i64 0]) (t := 100) ?hr ?_
      case hr => first | (go_simp; done) | (go_simp; rfl)
      intro gh hgh w10 hbox hbel
      have S10 := Aside0.mk (And.intro hbox (And.intro (And.intro (blk_below S9.out.1 hbel) (below_step S9.out.2 hbel)) (And.intro (show w.heap.size ≤ gh by rw [hgh]; exact S9.out.2.size) (show gh ≠ gr by have := blk_lt S9.out.1; omega))))
      clear hHeld hbox hbel hgh S9
      refine hK.out _ _ S10.out.2.1 (fun hHeld => ?_)
      clear hK K
      exact hK0 gh _ S10.out
    · refine box_step (by rfl) (N := 6) rfl (cs := #[.int .i64 0, .int .i64 0, .int .i64 0]) (t := 100) ?hr ?_
      case hr => first | (go_simp; done) | (go_simp; rfl)
      intro gh hgh w10 hbox hbel
      have S10 := Aside0.mk (And.intro hbox (And.intro (And.intro (blk_below hHeld.1 hbel) (below_step hHeld.2 hbel)) (And.intro (show w.heap.size ≤ gh by rw [hgh]; exact hHeld.2.size) (show gh ≠ gr by have := blk_lt hHeld.1; omega))))
      clear hHeld hbox hbel hgh
      refine hK.out _ _ (S10.out.2.1) (fun hHeld => ?_)
      clear hK K
      refine norm_ (a' := ?_) ?_ ?_
      rotate_left
      · show Act.put _ (some 6) _ = _
        simp only [Act.put, List.setIfInBounds_toArray, List.set_cons_zero, List.set_cons_succ, i64_w, i32_w]
        rfl
      refine one_ (i := 7) (N := some 20) #[true, true, true, true, true, true, true, true, false, true, false] rfl rfl (one_of HT_.out (by kernel_rfl)) (by decide) (fun K hK => ?_)
      refine goes_ Try.func130 (by kernel_rfl) rfl #[.slice A2 2 (c1 - 10)] (by rfl) rfl rfl (by first | rfl | (simp only [List.map_toArray, List.map_cons, List.map_nil]; first | done | rfl)) ?_
      have hcr := impl_numberAt.calls k A2 (c1 - 10) ((l1.take 12).drop 10) sz _ (Kd.C_below (Kd.F_now HF2.out) hHeld.2) (by have := HLN.out; have := HC.out; have := HL.out; omega) N1.out
      rw [HLN.out] at hcr
      refine hcr.mono ?_
      clear hcr
      rintro e w9 ⟨rfl, hd9⟩
      refine ⟨_, rfl, ?_⟩
      have S9 := Aside0.mk (And.intro (blk_below S10.out.1 hd9.below) (And.intro (And.intro (blk_below hHeld.1 hd9.below) (below_step hHeld.2 hd9.below)) S10.out.2.2))
      clear hHeld hd9 S10
      refine hK.out _ _ (S9.out.2.1) (fun hHeld => ?_)
      clear hK K
      refine norm_ (a' := ?_) ?_ ?_
      rotate_left
      · show Act.put _ (some 20) _ = _
        simp only [Act.put, List.setIfInBounds_toArray, List.set_cons_zero, List.set_cons_succ, i64_w, i32_w]
        rfl
      refine pure_ (i := 8) (N := some 21) (v := ?_) (a' := ?_) #[true, true, true, true, true, true, true, true, true, true, false] rfl rfl (any_of HT_.out (by kernel_rfl)) (fun _ _ _ h => h) (Or.inl ⟨by rfl, ?_⟩) ?_ ?_
      rotate_left
      · intro w'
        go_simp
        with_reducible rfl
      rotate_left
      · simp only [Act.put, List.setIfInBounds_toArray, List.set_cons_zero, List.set_cons_succ, i64_w, i32_w]
        rfl
      exact hK0 gh _ S9.out
  rintro gh w11 ⟨hb11, ⟨hr11, hB11⟩, hge11, hne11⟩
  refine norm_ (a' := ?_) ?_ ?_
  rotate_left
  · skip
    simp only [putAll, Act.put, List.setIfInBounds_toArray, List.set_cons_zero, List.set_cons_succ, i64_w, i32_w]
    rfl
  have hHeld := And.intro hr11 hB11
  refine one_ (i := 10) (N := none) #[true, true, true, true, true, true, true, true, true, true, true] rfl rfl (one_of HT_.out (by kernel_rfl)) (by decide) (fun K hK => ?_)
  refine store_blk_step (by rfl) rfl 100 (.tmp 6) (.tmp 21) rfl (off := 0) (u := .agg #[.int .i64 a0, .int .i64 (wrap64 (rd l1 8)), .int .i64 sz]) #[.int .i64 a0, .int .i64 (wrap64 (rd l1 8)), .int .i64 sz] rfl rfl hb11 [.int .i64 a0, .int .i64 (wrap64 (rd l1 8)), .int .i64 sz] rfl (by kernel_rfl) (Nat.le_of_ble_eq_true rfl) rfl rfl ?_
  intro w12 hblk hgrw
  have BH := Aside0.mk hblk
  have HB := Aside0.mk (hB11.grown hgrw hB11.size (by intro q hq; cases hq; exact hge11))
  have BK := Aside0.mk (blk_grown hr11 hgrw (by intro e; exact hne11 (Option.some.inj e).symm))
  have HNE : Aside0 (gh ≠ gr) := ⟨hne11⟩
  have HGE : Aside0 (w.heap.size ≤ gh) := ⟨hge11⟩
  clear hblk hgrw hb11 hr11 hB11 hge11 hne11 hHeld
  refine hK.out _ _ (⟨BK.out, HB.out⟩) (fun hHeld => ?_)
  clear hK K
  refine done_ (done_of HT_.out (by kernel_rfl)) ?_
  try clear hHeld
  have hcz0 : w12.cell? ⟨gh, 0, none⟩ = some (.int .i64 a0) := (blk_cell BH.out 0).trans rfl
  have hcz1 : w12.cell? ⟨gh, 1, none⟩ = some (.int .i64 (wrap64 (rd l1 8))) := (blk_cell BH.out 1).trans rfl
  have hcz2 : w12.cell? ⟨gh, 2, none⟩ = some (.int .i64 sz) := (blk_cell BH.out 2).trans rfl
  go_wp2_with fail
  refine (impl_head_valid.calls a0 _ sz hv _ N2.out).mono ?_
  rintro e w13 ⟨rfl, hb13⟩
  have BH2 := Aside0.mk (blk_below BH.out hb13)
  have HB2 := Aside0.mk (below_step HB.out hb13)
  have BK2 := Aside0.mk (blk_below BK.out hb13)
  clear BH HB BK hb13 hcz0 hcz1 hcz2
  have HGR : Aside0 (w.heap.size ≤ gr) := ⟨Nat.le_of_eq GB.out.symm⟩
  cases hv with
  | false =>
    have h := H.out
    rw [if_neg (by decide)] at h
    obtain rfl := Option.some.inj h
    clear h H
    go_wp2_with (first | ((with_reducible refine gate_ (.store 102 (.tmp 4) (.tmp 25)) rfl ?_); refine store_blk rfl rfl 102 (.tmp 4) (.tmp 25) rfl (off := 0) (u := .agg #[.int .i64 0, .int .i64 0, .int .i64 0, .slice none 0 0]) #[.int .i64 0, .int .i64 0, .int .i64 0, .slice none 0 0] rfl rfl BK2.out [.int .i64 0, .int .i64 0, .int .i64 0, .slice none 0 0] rfl (by kernel_rfl) (Nat.le_of_ble_eq_true rfl) rfl rfl ?_; intro w14 hblk hgrw; have BK3 := Aside0.mk hblk; have HB3 := Aside0.mk (HB2.out.grown hgrw HB2.out.size (by intro q hq; cases hq; exact HGR.out)); clear hblk hgrw))
    refine bodyPost_ret (results_cell_slot rfl _ _ gr 102 #[.int .i64 0, .int .i64 0, .int .i64 0, .slice none 0 0] (0, 0) _ _ rfl rfl BK3.out Try.underlying102 rfl (by kernel_rfl)) rfl ?_
    first | exact ⟨none, 0, rfl, Nat.le_refl _, Kd.F_nil _ _ _, HB3.out⟩ | exact ⟨none, ⟨0, rfl⟩, Kd.F_nil _ _ _, HB3.out⟩
  | true =>
    have h := H.out
    rw [if_pos rfl] at h
    clear H
    split at h
    case isFalse => cases h
    rename_i hsz
    obtain ⟨pb, H1, h⟩ := Option.bind_eq_some_iff.mp h
    obtain ⟨eq, H2, h⟩ := Option.bind_eq_some_iff.mp h
    have N3 := Aside0.mk H1
    have N4 := Aside0.mk H2
    have H := Aside0.mk h
    clear H1 H2 h
    obtain ⟨A3, hcut3, hF3⟩ : ∃ A3, (∀ W : World, (Instr.slice 22 (.slice (some ad) l1.length c1) (some (.int .i64 16)) (some (.int .i64 (16 + sz))) none).run Try.prog W = .ok (.slice A3 ((l1.take (16 + sz).toNat).drop 16).length (c1 - 16)) W) ∧ Kd.F (Kd.int .u8) w ok A3 ((l1.take (16 + sz).toNat).drop 16).length ((l1.take (16 + sz).toNat).drop 16) := by
      have hln : ((l1.take (16 + sz).toNat).drop 16).length = (16 + sz).toNat - (16 : Int).toNat := by rw [List.length_drop, List.length_take, HL.out]; omega
      refine ⟨_, fun W => (cut_mid 22 5 .i64 .i64 Try.underlying22 HI.out 1 HZ.out (some ad) l1.length c1 16 (16 + sz) (by decide) (by omega) (by have := HL.out; omega) HC.out W).trans (by rw [hln]; rfl), ?_⟩
      exact Kd.F_mid HF.out (by omega) (by have := HL.out; omega) HC.out
    have hwr : wrap64 (16 + sz) = 16 + sz := by unfold wrap64; omega
    have hbl : Aside0 (((l1.take (16 + sz).toNat).drop 16).length ≤ c1 - 16) := ⟨by rw [List.length_drop, List.length_take, HL.out]; have := HL.out; have := HC.out; omega⟩
    have HF3 := Aside0.mk hF3
    clear hF3
    generalize hbody : (l1.take (16 + sz).toNat).drop 16 = body at N3 H hcut3 hbl HF3
    clear hbody
    have hcz0 : w13.cell? ⟨gh, 0, none⟩ = some (.int .i64 a0) := (blk_cell BH2.out 0).trans rfl
    have hcz1 : w13.cell? ⟨gh, 1, none⟩ = some (.int .i64 (wrap64 (rd l1 8))) := (blk_cell BH2.out 1).trans rfl
    have hcz2 : w13.cell? ⟨gh, 2, none⟩ = some (.int .i64 sz) := (blk_cell BH2.out 2).trans rfl
    go_wp2_with fail
    refine start_ (n := 9) (S := fun w' => w'.heap[gh]? = some (.cells #[.int .i64 a0, .int .i64 (wrap64 (rd l1 8)), .int .i64 sz] 100 (0, 0)) ∧ w'.heap[gr]? = some (.cells #[.int .i64 0, .int .i64 0, .int .i64 0, .slice none 0 0] 102 (0, 0)) ∧ Below w.heap.size w w') (ds := []) #[false, false, false, false, false, false, false, false, false] (by kernel_rfl) rfl rfl (⟨blk_drew BH2.out, blk_drew BK2.out, below_drew1 HB2.out⟩) (fun hHeld => ?_); refine with_tabW impl_parsePage.tab6 impl_parsePage.bits6 (fun HT_ HW_ => ?_)
    clear BH2 BK2 HB2 hcz0 hcz1 hcz2
    refine take_ (i := 0) (N := some 27) (v := ?_) (a' := ?_) #[true, false, false, false, false, false, false, false, false] rfl rfl (take_ofW HT_.out HW_.out (by kernel_rfl)) (fun _ _ _ h => h) (Or.inl ⟨by rfl, ?_⟩) hHeld ?_ ?_
    rotate_left
    · intro w' s0
      have hcz0 : w'.cell? ⟨gh, 0, none⟩ = some (.int .i64 a0) := (blk_cell s0.1 0).trans rfl
      have hcz1 : w'.cell? ⟨gh, 1, none⟩ = some (.int .i64 (wrap64 (rd l1 8))) := (blk_cell s0.1 1).trans rfl
      have hcz2 : w'.cell? ⟨gh, 2, none⟩ = some (.int .i64 sz) := (blk_cell s0.1 2).trans rfl
      clear s0
      go_simp
      with_reducible rfl
    rotate_left
    · simp only [Act.put, List.setIfInBounds_toArray, List.set_cons_zero, List.set_cons_succ, i64_w, i32_w]
      rfl
    refine pure_ (i := 1) (N := some 28) (v := ?_) (a' := ?_) #[true, true, false, false, false, false, false, false, false] rfl rfl (any_of HT_.out (by kernel_rfl)) (fun _ _ _ h => h) (Or.inl ⟨by rfl, ?_⟩) ?_ ?_
    rotate_left
    · intro w'
      go_simp
      with_reducible rfl
    rotate_left
    · simp only [Act.put, List.setIfInBounds_toArray, List.set_cons_zero, List.set_cons_succ, i64_w, i32_w]
      rfl
    refine pure_ (i := 2) (N := some 29) (v := ?_) (a' := ?_) #[true, true, true, false, false, false, false, false, false] rfl rfl (any_of HT_.out (by kernel_rfl)) (fun _ _ _ h => h) (Or.inl ⟨by rfl, ?_⟩) ?_ ?_
    rotate_left
    · intro w'
      go_simp
      with_reducible rfl
    rotate_left
    · simp only [Act.put, List.setIfInBounds_toArray, List.set_cons_zero, List.set_cons_succ, i64_w, i32_w]
      rfl
    refine take_ (i := 3) (N := some 30) (v := ?_) (a' := ?_) #[true, true, true, true, false, false, false, false, false] rfl rfl (take_ofW HT_.out HW_.out (by kernel_rfl)) (fun _ _ _ h => h) (Or.inl ⟨by rfl, ?_⟩) hHeld ?_ ?_
    rotate_left
    · intro w' s0
      have hcz0 : w'.cell? ⟨gh, 0, none⟩ = some (.int .i64 a0) := (blk_cell s0.1 0).trans rfl
      have hcz1 : w'.cell? ⟨gh, 1, none⟩ = some (.int .i64 (wrap64 (rd l1 8))) := (blk_cell s0.1 1).trans rfl
      have hcz2 : w'.cell? ⟨gh, 2, none⟩ = some (.int .i64 sz) := (blk_cell s0.1 2).trans rfl
      clear s0
      go_simp
      with_reducible rfl
    rotate_left
    · simp only [Act.put, List.setIfInBounds_toArray, List.set_cons_zero, List.set_cons_succ, i64_w, i32_w]
      rfl
    refine pure_ (i := 4) (N := some 31) (v := ?_) (a' := ?_) #[true, true, true, true, true, false, false, false, false] rfl rfl (any_of HT_.out (by kernel_rfl)) (fun _ _ _ h => h) (Or.inl ⟨by rfl, ?_⟩) ?_ ?_
    rotate_left
    · intro w'
      go_simp
      simp only [i64_w, hwr]
      with_reducible rfl
    rotate_left
    · simp only [Act.put, List.setIfInBounds_toArray, List.set_cons_zero, List.set_cons_succ, i64_w, i32_w]
      rfl
    refine pure_ (i := 5) (N := some 32) (v := ?_) (a' := ?_) #[true, true, true, true, true, true, false, false, false] rfl rfl (any_of HT_.out (by kernel_rfl)) (fun _ _ _ h => h) (Or.inl ⟨by rfl, ?_⟩) ?_ ?_
    rotate_left
    · intro w'
      go_simp
      with_reducible rfl
    rotate_left
    · simp only [Act.put, List.setIfInBounds_toArray, List.set_cons_zero, List.set_cons_succ, i64_w, i32_w]
      rfl
    refine pure_ (i := 6) (N := some 33) (v := ?_) (a' := ?_) #[true, true, true, true, true, true, true, false, false] rfl rfl (any_of HT_.out (by kernel_rfl)) (fun _ _ _ h => h) (Or.inl ⟨by rfl, ?_⟩) ?_ ?_
    rotate_left
    · intro w'
      go_simp
      with_reducible rfl
    rotate_left
    · simp only [Act.put, List.setIfInBounds_toArray, List.set_cons_zero, List.set_cons_succ, i64_w, i32_w]
      rfl
    refine one_ (i := 7) (N := some 7) #[true, true, true, true, true, true, true, true, false] rfl rfl (one_of HT_.out (by kernel_rfl)) (by decide) (fun K hK => ?_)
    refine box_step (by rfl) (N := 7) rfl (cs := #[.int .i64 0, .int .i64 0, .int .i64 0, .slice none 0 0]) (t := 102) ?hr ?_
    case hr => first | (go_simp; done) | (go_simp; rfl)
    intro gp hgp w14 hbox hbel
    have BP0 := Aside0.mk hbox
    have S14 := Aside0.mk (And.intro (blk_below hHeld.1 hbel) (And.intro (blk_below hHeld.2.1 hbel) (below_step hHeld.2.2 hbel)))
    have HGP : Aside0 (w.heap.size ≤ gp) := ⟨by rw [hgp]; exact hHeld.2.2.size⟩
    have HNP : Aside0 (gp ≠ gr) := ⟨by have := blk_lt hHeld.2.1; omega⟩
    have HNH : Aside0 (gp ≠ gh) := ⟨by have := blk_lt hHeld.1; omega⟩
    clear hbox hbel hHeld hgp
    refine hK.out _ _ (S14.out) (fun hHeld => ?_)
    clear hK K
    refine norm_ (a' := ?_) ?_ ?_
    rotate_left
    · show Act.put _ (some 7) _ = _
      simp only [Act.put, List.setIfInBounds_toArray, List.set_cons_zero, List.set_cons_succ, i64_w, i32_w]
      rfl
    refine one_ (i := 8) (N := none) #[true, true, true, true, true, true, true, true, true] rfl rfl (one_of HT_.out (by kernel_rfl)) (by decide) (fun K hK => ?_)
    refine store_blk_step (by rfl) rfl 102 (.tmp 7) (.tmp 33) rfl (off := 0) (u := .agg #[.int .i64 a0, .int .i64 (wrap64 (rd l1 8)), .int .i64 sz, .slice A3 body.length (c1 - 16)]) #[.int .i64 a0, .int .i64 (wrap64 (rd l1 8)), .int .i64 sz, .slice A3 body.length (c1 - 16)] rfl rfl BP0.out [.int .i64 a0, .int .i64 (wrap64 (rd l1 8)), .int .i64 sz, .slice A3 body.length (c1 - 16)] rfl (by kernel_rfl) (Nat.le_of_ble_eq_true rfl) rfl rfl ?_
    intro w15 hblk hgrw
    have BP := Aside0.mk hblk
    have HB3 := Aside0.mk (S14.out.2.2.grown hgrw S14.out.2.2.size (by intro q hq; cases hq; exact HGP.out))
    have BK3 := Aside0.mk (blk_grown S14.out.2.1 hgrw (by intro e; exact HNP.out (Option.some.inj e).symm))
    have BH3 := Aside0.mk (blk_grown S14.out.1 hgrw (by intro e; exact HNH.out (Option.some.inj e).symm))
    clear hblk hgrw BP0 S14 hHeld
    refine hK.out _ _ (⟨BH3.out, BK3.out, HB3.out⟩) (fun hHeld => ?_)
    clear hK K
    refine done_ (done_of HT_.out (by kernel_rfl)) ?_
    try clear hHeld
    have hcw0 : w15.cell? ⟨gp, 0, none⟩ = some (.int .i64 a0) := (blk_cell BP.out 0).trans rfl
    have hcw1 : w15.cell? ⟨gp, 1, none⟩ = some (.int .i64 (wrap64 (rd l1 8))) := (blk_cell BP.out 1).trans rfl
    have hcw2 : w15.cell? ⟨gp, 2, none⟩ = some (.int .i64 sz) := (blk_cell BP.out 2).trans rfl
    have hcw3 : w15.cell? ⟨gp, 3, none⟩ = some (.slice A3 body.length (c1 - 16)) := (blk_cell BP.out 3).trans rfl
    go_wp2_with fail
    refine (impl_page_bytes.calls k a0 _ sz A3 (c1 - 16) body pb _ (Kd.C_below (Kd.F_now HF3.out) HB3.out) hbl.out N3.out).mono ?_
    rintro e w16 ⟨v16, rfl, ho16, hb16⟩
    have HO16 := Aside0.mk ho16
    have BP4 := Aside0.mk (blk_below BP.out hb16)
    have BK4 := Aside0.mk (blk_below BK3.out hb16)
    have HB4 := Aside0.mk (below_step HB3.out hb16)
    clear ho16 hb16 BP BK3 BH3 HB3 hcw0 hcw1 hcw2 hcw3
    obtain ⟨A16, c16, ev16⟩ := Kd.R_slice HO16.out
    subst ev16
    go_wp2_with fail
    refine (bytes_Equal.calls A16 c16 pb (some ad) c1 l1 eq w16 (Kd.R_reads' HO16.out).2.2 (Kd.R_reads' HO16.out).2.1 (Kd.C_below (Kd.F_now HF.out) HB4.out) HC.out N4.out).mono ?_
    rintro e w17 ⟨rfl, hd17⟩
    have BP5 := Aside0.mk (blk_below BP4.out hd17.below)
    have BK5 := Aside0.mk (blk_below BK4.out hd17.below)
    have HB5 := Aside0.mk (below_step HB4.out hd17.below)
    clear hd17 HO16 BP4 BK4 HB4
    cases eq with
    | false =>
      have h := H.out
      rw [if_neg (by decide)] at h
      obtain rfl := Option.some.inj h
      clear h H
      go_wp2_with (first | ((with_reducible refine gate_ (.store 102 (.tmp 4) (.tmp 39)) rfl ?_); refine store_blk rfl rfl 102 (.tmp 4) (.tmp 39) rfl (off := 0) (u := .agg #[.int .i64 0, .int .i64 0, .int .i64 0, .slice none 0 0]) #[.int .i64 0, .int .i64 0, .int .i64 0, .slice none 0 0] rfl rfl BK5.out [.int .i64 0, .int .i64 0, .int .i64 0, .slice none 0 0] rfl (by kernel_rfl) (Nat.le_of_ble_eq_true rfl) rfl rfl ?_; intro w18 hblk hgrw; have BK6 := Aside0.mk hblk; have HG6 := Aside0.mk hgrw; have HB6 := Aside0.mk (HB5.out.grown hgrw HB5.out.size (by intro q hq; cases hq; exact HGR.out)); clear hblk hgrw))
      refine bodyPost_ret (results_cell_slot rfl _ _ gr 102 #[.int .i64 0, .int .i64 0, .int .i64 0, .slice none 0 0] (0, 0) _ _ rfl rfl BK6.out Try.underlying102 rfl (by kernel_rfl)) rfl ?_
      first | exact ⟨none, 0, rfl, Nat.le_refl _, Kd.F_nil _ _ _, HB6.out⟩ | exact ⟨none, ⟨0, rfl⟩, Kd.F_nil _ _ _, HB6.out⟩
    | true =>
      have h := H.out
      rw [if_pos rfl] at h
      obtain rfl := Option.some.inj h
      clear h H
      have hcw0 : w17.cell? ⟨gp, 0, none⟩ = some (.int .i64 a0) := (blk_cell BP5.out 0).trans rfl
      have hcw1 : w17.cell? ⟨gp, 1, none⟩ = some (.int .i64 (wrap64 (rd l1 8))) := (blk_cell BP5.out 1).trans rfl
      have hcw2 : w17.cell? ⟨gp, 2, none⟩ = some (.int .i64 sz) := (blk_cell BP5.out 2).trans rfl
      have hcw3 : w17.cell? ⟨gp, 3, none⟩ = some (.slice A3 body.length (c1 - 16)) := (blk_cell BP5.out 3).trans rfl
      go_wp2_with (first | ((with_reducible refine gate_ (.store 102 (.tmp 4) (.tmp 41)) rfl ?_); refine store_blk rfl rfl 102 (.tmp 4) (.tmp 41) rfl (off := 0) (u := .agg #[.int .i64 a0, .int .i64 (wrap64 (rd l1 8)), .int .i64 sz, .slice A3 body.length (c1 - 16)]) #[.int .i64 a0, .int .i64 (wrap64 (rd l1 8)), .int .i64 sz, .slice A3 body.length (c1 - 16)] rfl rfl BK5.out [.int .i64 a0, .int .i64 (wrap64 (rd l1 8)), .int .i64 sz, .slice A3 body.length (c1 - 16)] rfl (by kernel_rfl) (Nat.le_of_ble_eq_true rfl) rfl rfl ?_; intro w18 hblk hgrw; have BK6 := Aside0.mk hblk; have HG6 := Aside0.mk hgrw; have HB6 := Aside0.mk (HB5.out.grown hgrw HB5.out.size (by intro q hq; cases hq; exact HGR.out)); clear hblk hgrw))
      refine bodyPost_ret (results_cell_slot rfl _ _ gr 102 #[.int .i64 a0, .int .i64 (wrap64 (rd l1 8)), .int .i64 sz, .slice A3 body.length (c1 - 16)] (0, 0) _ _ rfl rfl BK6.out Try.underlying102 rfl (by kernel_rfl)) rfl ?_
      exact ⟨A3, c1 - 16, rfl, hbl.out, Kd.F_mono (Kd.F_grown (ok := fun k => ok k ∧ k < w.heap.size) (Kd.F_below (Kd.F_bound HF3.out) HB5.out) HG6.out (fun q hq e => by cases e; exact absurd hq.2 (by have := GB.out; omega))) (fun _ hk => hk.1), HB6.out⟩
end Go.Proofs.Ytlopmffdebhpfaa.G

/-! ## Err -/
namespace Go.Proofs.Ytlopmffdebhpfaa.G
open Go.RowKit Go.Extern.Stop Go.Stop Go.Extern
theorem run_equalIn_iface_string {P : Program} (w : World) (d : Nat) {ti tn : TypeId} {ms : Array (String × TypeId)} {i : TypeInfo} (a b : ByteArray)
    (hi : P.underlying ti = some (.interface ms)) (hn : P.underlying tn = some .string) (hinfo : P.info? tn = some i) (hcomp : i.comparable = true) :
    (Op.equalIn (d + 2) ti (.iface tn (.string a)) (.iface tn (.string b))).run P w = .ok (a == b) w := by
  simp [Op.equalIn, run_underlying hi, run_underlying hn, typeInfo, hinfo, hcomp]
theorem run_eql_iface_string {P : Program} (w : World) {ti tn : TypeId} {ms : Array (String × TypeId)} {i : TypeInfo} (a b : ByteArray)
    (hi : P.underlying ti = some (.interface ms)) (hn : P.underlying tn = some .string) (hinfo : P.info? tn = some i) (hcomp : i.comparable = true) :
    (binOp .eql ti (.iface tn (.string a)) (.iface tn (.string b))).run P w = .ok (.bool (a == b)) w := by
  simp only [binOp]
  simp [Op.equal, Op.maxDepth, run_equalIn_iface_string w 9998 a b hi hn hinfo hcomp]

theorem isTypeOf (v : Value) (w : World) : (Extern.ReflectliteType.typeOf #[.iface 108 v]).run Try.prog w = .ok (.iface 205 (.agg #[.pointer (some ⟨1, 108, none⟩)])) w := by kernel_rfl
theorem isComparable (w : World) : ((Extern.ReflectliteType.method fun t => do Extern.Rtype.noPackHeld "Comparable" t; (fun a => Value.bool a.comparable) <$> typeInfo t) #[.agg #[.pointer (some ⟨1, 108, none⟩)]]).run Try.prog w = .ok (.bool true) w := by kernel_rfl
theorem isMethodComparable (v : Value) (w : World) : (Go.method 379 205 v "Comparable").run Try.prog w = .ok (229, v) w := by kernel_rfl
theorem isComp : (Try.prog.info? 108).map (·.comparable) = some true := by kernel_rfl
theorem noIs (v : Value) (xT : TypeId) (w : World) : (Instr.typeAssert (.iface 108 v) xT 207 true).run Try.prog w = .ok (.tuple #[.nilIface, .bool false]) w := run_typeAssert_lacksB Try.underlying207 (by kernel_rfl) (by kernel_rfl) v xT w
theorem noUnwrap (v : Value) (xT : TypeId) (w : World) : (Instr.typeAssert (.iface 108 v) xT 210 true).run Try.prog w = .ok (.tuple #[.nilIface, .bool false]) w := run_typeAssert_lacksB Try.underlying210 (by kernel_rfl) (by kernel_rfl) v xT w
theorem noUnwraps (v : Value) (xT : TypeId) (w : World) : (Instr.typeAssert (.iface 108 v) xT 212 true).run Try.prog w = .ok (.tuple #[.nilIface, .bool false]) w := run_typeAssert_lacksB Try.underlying212 (by kernel_rfl) (by kernel_rfl) v xT w

theorem is_nil (b : ByteArray) (w : World) : Calls Try.prog 71 #[.nilIface, .iface 108 (.string b)] w fun e w' => e = .returned (.bool false) ∧ w = w' := by
  have hn := run_eql_iface_nil_left (P := Try.prog) w 108 (.string b) Try.underlying104
  go_enter Try.func71, Try.ntmps71
  go_wp2
  go_ret
  exact ⟨rfl, rfl⟩

set_option maxRecDepth 100000 in
theorem is_any (a b : ByteArray) (c : Bool) (hc : (a == b) = c) (w : World) : Calls Try.prog 71 #[.iface 108 (.string a), .iface 108 (.string b)] w fun e w' => e = .returned (.bool c) ∧ w = w' := by
  obtain ⟨i, hi, hcmp⟩ := Option.map_eq_some_iff.1 isComp
  have h8 := @run_callFunc_extern Try.prog 132 _ Extern.ReflectliteType.typeOf Try.func132 (by kernel_rfl) (by kernel_rfl) (by kernel_rfl) (by kernel_rfl)
  have h32 := @run_callFunc_extern Try.prog 229 _ (Extern.ReflectliteType.method fun t => do Extern.Rtype.noPackHeld "Comparable" t; pure (.bool (← typeInfo t).comparable)) Try.func229 (by kernel_rfl) (by kernel_rfl) (by kernel_rfl) (by kernel_rfl)
  have tT := isTypeOf
  have cT := isComparable
  have mR := isMethodComparable
  have nE := noIs
  have uE := noUnwrap
  have vE := noUnwraps
  have heq := fun w => run_eql_iface_string (P := Try.prog) w a b Try.underlying104 Try.underlying108 hi hcmp
  rw [hc] at heq
  clear hc hi hcmp
  cases c
  · go_enter Try.func71, Try.ntmps71
    go_wp2
    refine wp_loop_rounds 1 ?_
    rw [rounds_succ]
    go_wp2
    go_ret
    exact ⟨rfl, rfl⟩
  · go_enter Try.func71, Try.ntmps71
    go_wp2
    refine wp_loop_rounds 1 ?_
    rw [rounds_succ]
    go_wp2
    go_ret
    exact ⟨rfl, rfl⟩
end Go.Proofs.Ytlopmffdebhpfaa.G

/-! ## Page -/
namespace Go.Proofs.Ytlopmffdebhpfaa.G
open Go.RowKit Go.Proofs.YtlopmffdebhpfaaW.PrintWords Go.Proofs.YtlopmffdebhpfaaW.PrintLast Go.Proofs.YtlopmffdebhpfaaW.PrintMore
set_option linter.unusedVariables false
set_option linter.unusedSimpArgs false

theorem F_of_C {k : IntKind} {w : World} {A : Option Addr} {xs : List Int} (h : Kd.C (Kd.int k) w A xs.length xs) : Kd.F (Kd.int k) w (fun _ => True) A xs.length xs := by
  intro W' hW
  obtain ⟨_, h2, h3⟩ := C_cells h
  refine C_of_cells h2 (fun hp => ?_)
  obtain ⟨ad, e, hc⟩ := h3 hp
  refine ⟨ad, e, fun j x hx => ?_⟩
  have h4 := hc j x hx
  exact (World.cell?_of_block (hW _ trivial (World.block_lt_of_cell? w _ h4))).trans h4

def impl_DecodePage.f (k : Nat) (a0 : Int) (l1 : List Int) : Option (Int × List Int × Bool) :=
  (impl_parsePage.f k a0 l1).bind fun p => if p.1 = 0 then ((bytes_Clone.f p.2.2.2.2).bind fun b => some (p.2.2.1, b, true)) else some (0, [], false)
theorem impl_DecodePage.mono : ∀ a0 a1 k, LeO (impl_DecodePage.f k a0 a1) (impl_DecodePage.f (k + 1) a0 a1) := by
  intro a0 a1 k
  unfold impl_DecodePage.f
  exact LeO.bind (impl_parsePage.mono _ _ _) (fun _ => LeO.refl _)

def impl_DecodePage.T4 : Bool × List (List Nat × List Nat) := (true, [([], []), ([0], [0]), ([1], [1]), ([], []), ([3], [3]), ([4], [4]), ([2, 5, 0, 1, 2], [2]), ([5, 6, 0, 1, 2, 3, 4, 5, 6], [5]), ([7, 0, 1, 2, 3, 4, 5, 6, 7], [])])
def impl_DecodePage.B4 : List Nat := [0, 1, 3, 0, 8, 24, 63, 127, 255]
theorem impl_DecodePage.tab4 : rtab .any (opsOf Try.f16 4) = impl_DecodePage.T4 := by kernel_rfl
theorem impl_DecodePage.bits4 : waitsOk impl_DecodePage.T4.2 impl_DecodePage.B4 = true := by kernel_rfl
set_option maxHeartbeats 4000000 in
set_option maxRecDepth 100000 in
theorem impl_DecodePage.calls (k : Nat) (a0 : Int) (A1 : Option Addr) (c1 : Nat) (l1 : List Int) (r1 : Int) (r2 : List Int) (r3 : Bool) (w : World) (hr1 : Kd.C (Kd.int .u8) w A1 l1.length l1) (hc1 : l1.length ≤ c1) (h : impl_DecodePage.f k a0 l1 = some (r1, r2, r3)) :
    Calls Try.prog 16 #[.int .i64 a0, .slice A1 l1.length c1] w fun e w' => ∃ v1_ : Value, e = .returned (.tuple #[.int .i64 r1, v1_, .bool r3]) ∧ Kd.R (Kd.int .u8) 5 w' w.heap.size (fun _ => True) v1_ r2 ∧ Below w.heap.size w w' := by
  have hu102 := Try.underlying102
  have hu100 := Try.underlying100
  unfold impl_DecodePage.f at h
  obtain ⟨p, H1, h⟩ := Option.bind_eq_some_iff.mp h
  have N1 := Aside0.mk H1
  have H := Aside0.mk h
  have HF := Aside0.mk (F_of_C hr1)
  have HC := Aside0.mk hc1
  clear H1 h hr1 hc1
  obtain ⟨tag, id, kind, size, body⟩ := p
  simp only at H
  go_enter Try.func16, Try.ntmps16
  go_wp2_with fail
  refine (impl_parsePage.calls k a0 A1 c1 l1 _ _ (fun _ => True) (Kd.F_below HF.out (by first | exact Below.refl _ _ | exact below_drew1 (Below.refl _ _))) HC.out N1.out).mono ?_
  rintro e w5 ⟨A5, c5, rfl, hc5, hf5, hb5⟩
  have HF5 := Aside0.mk hf5
  have HC5 := Aside0.mk hc5
  have HB := Aside0.mk hb5
  clear hf5 hc5 hb5 HF
  simp only at HF5 HC5 ⊢
  generalize he : perr tag = ve
  go_wp2_with (first | ((with_reducible refine gate_dst (N := 7) rfl ?_); refine box_event ?hg (N := 7) ?hd (cs := #[.int .i64 0, .int .i64 0, .int .i64 0, .slice none 0 0]) (t := 102) ?hr ?_; (case hd => rfl); (case hg => rfl); (case hr => first | (go_simp; done) | (go_simp; rfl)); intro gp hgr w6 hbox hbel; have BP0 := Aside0.mk hbox; have HB1 := Aside0.mk (below_step HB.out hbel); have HL := Aside0.mk hbel; have GP := Aside0.mk hgr; clear hbox hbel hgr) | ((with_reducible refine gate_ (.store 102 (.tmp 7) (.tmp 13)) rfl ?_); refine store_blk rfl rfl 102 (.tmp 7) (.tmp 13) rfl (off := 0) (u := .agg #[.int .i64 id, .int .i64 kind, .int .i64 size, .slice A5 body.length c5]) #[.int .i64 id, .int .i64 kind, .int .i64 size, .slice A5 body.length c5] rfl rfl BP0.out [.int .i64 id, .int .i64 kind, .int .i64 size, .slice A5 body.length c5] rfl (by kernel_rfl) (Nat.le_of_ble_eq_true rfl) rfl rfl ?_; intro w7 hblk hgrw; have BP := Aside0.mk hblk; have HB2 := Aside0.mk (HB1.out.grown hgrw HB1.out.size (by intro q hq; cases hq; exact (by rw [GP.out]; exact HB.out.size))); have HF7 := Aside0.mk (Kd.F_mono (Kd.F_grown (ok := fun k => True ∧ k < w5.heap.size) (Kd.F_below (Kd.F_bound HF5.out) HL.out) hgrw (fun q hq e => by cases e; exact absurd hq.2 (by rw [GP.out]; exact Nat.lt_irrefl _))) (fun _ _ => trivial)); clear hblk hgrw))
  cases tag with
  | succ n =>
    have h := H.out
    rw [if_neg (by omega)] at h
    simp only [Option.some.injEq, Prod.mk.injEq] at h
    obtain ⟨rfl, rfl, rfl⟩ := h
    cases n with
    | zero =>
      simp only [perr] at he
      subst he
      refine (is_any _ _ true (by decide) _).mono ?_
      rintro e w9 ⟨rfl, rfl⟩
      go_wp2_with fail
      go_ret3
      exact ⟨_, rfl, Kd.R_nil _ _ _ _ _, HB2.out⟩
    | succ n =>
      simp only [perr] at he
      subst he
      refine (is_any _ _ false (by decide) _).mono ?_
      rintro e w9 ⟨rfl, rfl⟩
      go_wp2_with fail
      refine (is_any _ _ true (by decide) _).mono ?_
      rintro e w9 ⟨rfl, rfl⟩
      go_wp2_with fail
      go_ret3
      exact ⟨_, rfl, Kd.R_nil _ _ _ _ _, HB2.out⟩
  | zero =>
    have h := H.out
    rw [if_pos rfl] at h
    obtain ⟨b, H2, h⟩ := Option.bind_eq_some_iff.mp h
    simp only [Option.some.injEq, Prod.mk.injEq] at h
    obtain ⟨rfl, rfl, rfl⟩ := h
    have N2 := Aside0.mk H2
    clear H2 H
    simp only [perr] at he
    subst he
    refine (is_nil _ _).mono ?_
    rintro e w9 ⟨rfl, rfl⟩
    go_wp2_with fail
    refine (is_nil _ _).mono ?_
    rintro e w9 ⟨rfl, rfl⟩
    go_wp2_with fail
    refine start_ (n := 9) (S := fun w' => w'.heap[gp]? = some (.cells #[.int .i64 id, .int .i64 kind, .int .i64 size, .slice A5 body.length c5] 102 (0, 0))) (ds := []) #[false, false, false, false, false, false, false, false, false] (by kernel_rfl) rfl rfl (blk_drew BP.out) (fun hHeld => ?_); refine with_tabW impl_DecodePage.tab4 impl_DecodePage.bits4 (fun HT_ HW_ => ?_)
    have HB3 := Aside0.mk (below_drew1 HB2.out)
    have HF8 := Aside0.mk (Kd.F_drew HF7.out)
    clear HB2 HF7 BP
    generalize World.drew _ = w8 at HB3 HF8 hHeld ⊢
    refine pure_ (i := 0) (N := some 23) (v := ?_) (a' := ?_) #[true, false, false, false, false, false, false, false, false] rfl rfl (any_of HT_.out (by kernel_rfl)) (fun _ _ _ h => h) (Or.inl ⟨by rfl, ?_⟩) ?_ ?_
    rotate_left
    · intro w'
      go_simp
      with_reducible rfl
    rotate_left
    · simp only [Act.put, List.setIfInBounds_toArray, List.set_cons_zero, List.set_cons_succ, i64_w, i32_w]
      rfl
    refine pure_ (i := 1) (N := some 24) (v := ?_) (a' := ?_) #[true, true, false, false, false, false, false, false, false] rfl rfl (any_of HT_.out (by kernel_rfl)) (fun _ _ _ h => h) (Or.inl ⟨by rfl, ?_⟩) ?_ ?_
    rotate_left
    · intro w'
      go_simp
      with_reducible rfl
    rotate_left
    · simp only [Act.put, List.setIfInBounds_toArray, List.set_cons_zero, List.set_cons_succ, i64_w, i32_w]
      rfl
    refine take_ (i := 2) (N := some 25) (v := ?_) (a' := ?_) #[true, true, true, false, false, false, false, false, false] rfl rfl (take_ofW HT_.out HW_.out (by kernel_rfl)) (fun _ _ _ h => h) (Or.inl ⟨by rfl, ?_⟩) hHeld ?_ ?_
    rotate_left
    · intro w' s0
      have hcz0 : w'.cell? ⟨gp, 0, none⟩ = some (.int .i64 id) := (blk_cell s0 0).trans rfl
      have hcz1 : w'.cell? ⟨gp, 1, none⟩ = some (.int .i64 kind) := (blk_cell s0 1).trans rfl
      have hcz2 : w'.cell? ⟨gp, 2, none⟩ = some (.int .i64 size) := (blk_cell s0 2).trans rfl
      have hcz3 : w'.cell? ⟨gp, 3, none⟩ = some (.slice A5 body.length c5) := (blk_cell s0 3).trans rfl
      clear s0
      go_simp
      with_reducible rfl
    rotate_left
    · simp only [Act.put, List.setIfInBounds_toArray, List.set_cons_zero, List.set_cons_succ, i64_w, i32_w]
      rfl
    refine pure_ (i := 3) (N := some 26) (v := ?_) (a' := ?_) #[true, true, true, true, false, false, false, false, false] rfl rfl (any_of HT_.out (by kernel_rfl)) (fun _ _ _ h => h) (Or.inl ⟨by rfl, ?_⟩) ?_ ?_
    rotate_left
    · intro w'
      go_simp
      with_reducible rfl
    rotate_left
    · simp only [Act.put, List.setIfInBounds_toArray, List.set_cons_zero, List.set_cons_succ, i64_w, i32_w]
      rfl
    refine take_ (i := 4) (N := some 27) (v := ?_) (a' := ?_) #[true, true, true, true, true, false, false, false, false] rfl rfl (take_ofW HT_.out HW_.out (by kernel_rfl)) (fun _ _ _ h => h) (Or.inl ⟨by rfl, ?_⟩) hHeld ?_ ?_
    rotate_left
    · intro w' s0
      have hcz0 : w'.cell? ⟨gp, 0, none⟩ = some (.int .i64 id) := (blk_cell s0 0).trans rfl
      have hcz1 : w'.cell? ⟨gp, 1, none⟩ = some (.int .i64 kind) := (blk_cell s0 1).trans rfl
      have hcz2 : w'.cell? ⟨gp, 2, none⟩ = some (.int .i64 size) := (blk_cell s0 2).trans rfl
      have hcz3 : w'.cell? ⟨gp, 3, none⟩ = some (.slice A5 body.length c5) := (blk_cell s0 3).trans rfl
      clear s0
      go_simp
      with_reducible rfl
    rotate_left
    · simp only [Act.put, List.setIfInBounds_toArray, List.set_cons_zero, List.set_cons_succ, i64_w, i32_w]
      rfl
    refine one_ (i := 5) (N := some 28) #[true, true, true, true, true, true, false, false, false] rfl rfl (one_of HT_.out (by kernel_rfl)) (by decide) (fun K hK => ?_)
    refine goes_ Try.func72 (by kernel_rfl) rfl #[.slice A5 body.length c5] (by rfl) rfl rfl (by first | rfl | (simp only [List.map_toArray, List.map_cons, List.map_nil]; first | done | rfl)) ?_
    refine (bytes_Clone.calls A5 c5 body b _ (Kd.F_now HF8.out) HC5.out N2.out).mono ?_
    rintro e w9 ⟨v9, rfl, ho9, hb9⟩
    refine ⟨_, rfl, ?_⟩
    have HO9 := Aside0.mk (Kd.R_lower ho9 HB3.out.size)
    have HB9 := Aside0.mk (below_step HB3.out hb9)
    have HD9 := Aside0.mk (blk_below hHeld hb9)
    clear ho9 hb9 hHeld HB3 HF8
    refine hK.out _ _ (HD9.out) (fun hHeld => ?_)
    clear hK K
    refine norm_ (a' := ?_) ?_ ?_
    rotate_left
    · show Act.put _ (some 28) _ = _
      simp only [Act.put, List.setIfInBounds_toArray, List.set_cons_zero, List.set_cons_succ, i64_w, i32_w]
      rfl
    refine pure_ (i := 6) (N := some 4) (v := ?_) (a' := ?_) #[true, true, true, true, true, true, true, false, false] rfl rfl (any_of HT_.out (by kernel_rfl)) (fun _ _ _ h => h) (Or.inl ⟨by rfl, ?_⟩) ?_ ?_
    rotate_left
    · intro w'
      go_simp
      with_reducible rfl
    rotate_left
    · simp only [Act.put, List.setIfInBounds_toArray, List.set_cons_zero, List.set_cons_succ, i64_w, i32_w]
      rfl
    refine pure_ (i := 7) (N := some 5) (v := ?_) (a' := ?_) #[true, true, true, true, true, true, true, true, false] rfl rfl (any_of HT_.out (by kernel_rfl)) (fun _ _ _ h => h) (Or.inl ⟨by rfl, ?_⟩) ?_ ?_
    rotate_left
    · intro w'
      go_simp
      with_reducible rfl
    rotate_left
    · simp only [Act.put, List.setIfInBounds_toArray, List.set_cons_zero, List.set_cons_succ, i64_w, i32_w]
      rfl
    refine pure_ (i := 8) (N := some 6) (v := ?_) (a' := ?_) #[true, true, true, true, true, true, true, true, true] rfl rfl (any_of HT_.out (by kernel_rfl)) (fun _ _ _ h => h) (Or.inl ⟨by rfl, ?_⟩) ?_ ?_
    rotate_left
    · intro w'
      go_simp
      with_reducible rfl
    rotate_left
    · simp only [Act.put, List.setIfInBounds_toArray, List.set_cons_zero, List.set_cons_succ, i64_w, i32_w]
      rfl
    refine done_ (done_of HT_.out (by kernel_rfl)) ?_
    try clear hHeld
    go_wp2_with fail
    go_ret3
    exact ⟨_, rfl, HO9.out, HB9.out⟩

def impl_EncodePage.f (k : Nat) (a0 : Int) (a1 : Int) (l2 : List Int) : Option (List Int × Bool) :=
  (impl_head_valid.f a0 a1 (l2.length : Int)).bind fun hv => if hv = true then ((impl_page_bytes.f k a0 a1 (l2.length : Int) l2).bind fun pb => some (pb, true)) else some ([], false)
theorem impl_EncodePage.mono : ∀ a0 a1 a2 k, LeO (impl_EncodePage.f k a0 a1 a2) (impl_EncodePage.f (k + 1) a0 a1 a2) := by
  intro a0 a1 a2 k
  unfold impl_EncodePage.f
  exact LeO.bind (LeO.refl _) (fun _ => LeO.ite (LeO.bind (impl_page_bytes.mono _ _ _ _ _) (fun _ => LeO.refl _)) (LeO.refl _))
set_option maxHeartbeats 4000000 in
set_option maxRecDepth 100000 in
theorem impl_EncodePage.calls (k : Nat) (a0 : Int) (a1 : Int) (A2 : Option Addr) (c2 : Nat) (l2 : List Int) (r1 : List Int) (r2 : Bool) (w : World) (hr2 : Kd.C (Kd.int .u8) w A2 l2.length l2) (hc2 : l2.length ≤ c2) (h : impl_EncodePage.f k a0 a1 l2 = some (r1, r2)) :
    Calls Try.prog 22 #[.int .i64 a0, .int .i64 a1, .slice A2 l2.length c2] w fun e w' => ∃ v0_ : Value, e = .returned (.tuple #[v0_, .bool r2]) ∧ Kd.R (Kd.int .u8) 5 w' w.heap.size (fun _ => True) v0_ r1 ∧ Below w.heap.size w w' := by
  have hu102 := Try.underlying102
  have hu100 := Try.underlying100
  unfold impl_EncodePage.f at h
  obtain ⟨hv, H1, h⟩ := Option.bind_eq_some_iff.mp h
  have N1 := Aside0.mk H1
  have H := Aside0.mk h
  have HR := Aside0.mk hr2
  have HC := Aside0.mk hc2
  clear H1 h hr2 hc2
  go_enter Try.func22, Try.ntmps22
  go_wp2_with (first | ((with_reducible refine gate_dst (N := 8) rfl ?_); refine box_event ?hg (N := 8) ?hd (cs := #[.int .i64 0, .int .i64 0, .int .i64 0, .slice none 0 0]) (t := 102) ?hr ?_; (case hd => rfl); (case hg => rfl); (case hr => first | (go_simp; done) | (go_simp; rfl)); intro gp hgr w6 hbox hbel; have BP0 := Aside0.mk hbox; have HB1 := Aside0.mk hbel; have GP := Aside0.mk hgr; clear hbox hbel hgr) | ((with_reducible refine gate_ (.store 102 (.tmp 8) (.tmp 15)) rfl ?_); refine store_blk rfl rfl 102 (.tmp 8) (.tmp 15) rfl (off := 0) (u := .agg #[.int .i64 a0, .int .i64 a1, .int .i64 (l2.length : Int), .slice A2 l2.length c2]) #[.int .i64 a0, .int .i64 a1, .int .i64 (l2.length : Int), .slice A2 l2.length c2] rfl rfl BP0.out [.int .i64 a0, .int .i64 a1, .int .i64 (l2.length : Int), .slice A2 l2.length c2] rfl (by kernel_rfl) (Nat.le_of_ble_eq_true rfl) rfl rfl ?_; intro w7 hblk hgrw; have BP := Aside0.mk hblk; have HB2 := Aside0.mk (HB1.out.grown hgrw HB1.out.size (by intro q hq; cases hq; exact Nat.le_of_eq GP.out.symm)); have hcz0 : w7.cell? ⟨gp, 0, none⟩ = some (.int .i64 a0) := (blk_cell BP.out 0).trans rfl; have hcz1 : w7.cell? ⟨gp, 1, none⟩ = some (.int .i64 a1) := (blk_cell BP.out 1).trans rfl; have hcz2 : w7.cell? ⟨gp, 2, none⟩ = some (.int .i64 (l2.length : Int)) := (blk_cell BP.out 2).trans rfl; have hcz3 : w7.cell? ⟨gp, 3, none⟩ = some (.slice A2 l2.length c2) := (blk_cell BP.out 3).trans rfl; clear hblk hgrw))
  refine (impl_head_valid.calls a0 a1 _ hv _ N1.out).mono ?_
  rintro e w8 ⟨rfl, hb8⟩
  have BP2 := Aside0.mk (blk_below BP.out hb8)
  have HB3 := Aside0.mk (below_step HB2.out hb8)
  clear hb8 BP HB2 hcz0 hcz1 hcz2 hcz3
  cases hv with
  | false =>
    have h := H.out
    rw [if_neg (by decide)] at h
    simp only [Option.some.injEq, Prod.mk.injEq] at h
    obtain ⟨rfl, rfl⟩ := h
    go_wp2_with fail
    go_ret2
    exact ⟨_, rfl, Kd.R_nil _ _ _ _ _, HB3.out⟩
  | true =>
    have h := H.out
    rw [if_pos rfl] at h
    obtain ⟨pb, H2, h⟩ := Option.bind_eq_some_iff.mp h
    simp only [Option.some.injEq, Prod.mk.injEq] at h
    obtain ⟨rfl, rfl⟩ := h
    have N2 := Aside0.mk H2
    clear H2 H
    have hcz0 : w8.cell? ⟨gp, 0, none⟩ = some (.int .i64 a0) := (blk_cell BP2.out 0).trans rfl
    have hcz1 : w8.cell? ⟨gp, 1, none⟩ = some (.int .i64 a1) := (blk_cell BP2.out 1).trans rfl
    have hcz2 : w8.cell? ⟨gp, 2, none⟩ = some (.int .i64 (l2.length : Int)) := (blk_cell BP2.out 2).trans rfl
    have hcz3 : w8.cell? ⟨gp, 3, none⟩ = some (.slice A2 l2.length c2) := (blk_cell BP2.out 3).trans rfl
    go_wp2_with fail
    refine (impl_page_bytes.calls k a0 a1 _ A2 c2 l2 pb _ (Kd.C_below HR.out HB3.out) HC.out N2.out).mono ?_
    rintro e w9 ⟨v9, rfl, ho9, hb9⟩
    have HO9 := Aside0.mk (Kd.R_lower ho9 HB3.out.size)
    have HB9 := Aside0.mk (below_step HB3.out hb9)
    clear ho9 hb9
    go_wp2_with fail
    go_ret2
    exact ⟨_, rfl, HO9.out, HB9.out⟩
end Go.Proofs.Ytlopmffdebhpfaa.G
