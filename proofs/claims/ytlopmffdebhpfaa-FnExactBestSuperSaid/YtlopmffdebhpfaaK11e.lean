/- The law FnExactBestSuper is true of every argument: its row, out of the walk. Conditions: none beyond the given statement. -/
import Derived.Test.YtlopmffdebhpfaaK11d
import Derived.Test.YtlopmffdebhpfaaK11c
import Derived.Test.YtlopmffdebhpfaaK11a
import Derived.Test.YtlopmffdebhpfaaK11b
import Derived.Lib.SmallJoins
import Derived.Test.YtlopmffdebhpfaaRows
import Derived.WalkKit
import Derived.ProofKit
import Derived.OpenShut
import Derived.ShutString
import Derived.ChangeOld
import Derived.Below
import Derived.SizedLaws
import Derived.Test.YtlopmffdebhpfaaK11WSized
/-! ## BSp -/
namespace Go.Proofs.Ytlopmffdebhpfaa.G
open Go.RowKit Go.Proofs.YtlopmffdebhpfaaW.PrintWords Go.Proofs.YtlopmffdebhpfaaW.PrintLast Go.Proofs.YtlopmffdebhpfaaW.PrintMore
set_option linter.unusedVariables false
set_option linter.unusedSimpArgs false

def spec_BestSuper.f (k : Nat) (safe : List (List Int)) (ps : List S185) : Option ((Int × Int × Int × Int) × Bool) :=
  (spec_DiskOk.f k safe ps).bind fun ok => if ok = true then ((spec_l1Now.f k safe ps).bind fun now => (spec_l2SuperAt.f k now 0).bind fun p => (spec_l2SuperAt.f k now 1).bind fun q =>
    if p.2 = true then (if q.2 = true then (if q.1.1 < p.1.1 then some (p.1, true) else some (q.1, q.2)) else some (p.1, true)) else some (q.1, q.2)) else some ((0, 0, 0, 0), false)
set_option maxHeartbeats 8000000 in
set_option maxRecDepth 100000 in
theorem spec_BestSuper.calls (k : Nat) (A0 : Option Addr) (c0 : Nat) (safe : List (List Int)) (A1 : Option Addr) (c1 : Nat) (ps : List S185) (r0 r1 r2 r3 : Int) (rb : Bool) (w : World) (hr0 : Kd.C (Kd.slice 5 (Kd.int .u8)) w A0 safe.length safe) (hc0 : safe.length ≤ c0) (hr1 : Kd.C k185 w A1 ps.length ps) (hc1 : ps.length ≤ c1)
    (h : spec_BestSuper.f k safe ps = some ((r0, r1, r2, r3), rb)) :
    Calls Try.prog 52 #[.agg #[.slice A0 safe.length c0, .slice A1 ps.length c1]] w fun e w' => e = .returned (.tuple #[.agg #[.int .i64 r0, .int .i64 r1, .int .i64 r2, .int .i64 r3], .bool rb]) ∧ Below w.heap.size w w' := by
  have hu44 := Try.underlying44
  have hu81 := Try.underlying81
  have hu163 := Try.underlying163
  have HR0 := Aside0.mk hr0
  have HR1 := Aside0.mk hr1
  have HC0 := Aside0.mk hc0
  have HC1 := Aside0.mk hc1
  clear hr0 hr1 hc0 hc1
  unfold spec_BestSuper.f at h
  obtain ⟨ok, H1, h⟩ := Option.bind_eq_some_iff.mp h
  have N1 := Aside0.mk H1
  have H := Aside0.mk h
  clear H1 h
  go_enter Try.func52, Try.ntmps52
  go_wp2_with (first | ((with_reducible refine gate_dst (N := 1) rfl ?_); refine box_event ?hg (N := 1) ?hd (cs := #[.slice A0 safe.length c0, .slice A1 ps.length c1]) (t := 44) ?hr ?_; (case hd => rfl); (case hg => rfl); (case hr => first | (go_simp; done) | (go_simp; rfl)); intro gd hgr w1 hbox hbel; have BD := Aside0.mk hbox; have HB := Aside0.mk hbel; have hd0 : w1.cell? ⟨gd, 0, none⟩ = some (.slice A0 safe.length c0) := (blk_cell hbox 0).trans rfl; clear hbox hbel hgr) | ((with_reducible refine gate_dst (N := 2) rfl ?_); refine box_event ?hg (N := 2) ?hd (cs := #[.int .i64 0, .int .i64 0, .int .i64 0, .int .i64 0]) (t := 81) ?hr ?_; (case hd => rfl); (case hg => rfl); (case hr => first | (go_simp; done) | (go_simp; rfl)); intro gr hgr w1b hbox hbel; have BR := Aside0.mk hbox; have GR : Aside0 (w.heap.size ≤ gr) := ⟨by rw [hgr]; exact HB.out.size⟩; have BD := Aside0.mk (blk_below BD.out hbel); have HB := Aside0.mk (below_step HB.out hbel); have hd0 : w1b.cell? ⟨gd, 0, none⟩ = some (.slice A0 safe.length c0) := (blk_cell BD.out 0).trans rfl; have hd1 : w1b.cell? ⟨gd, 1, none⟩ = some (.slice A1 ps.length c1) := (blk_cell BD.out 1).trans rfl; clear hbox hbel hgr))
  refine (spec_DiskOk.calls k A0 c0 safe A1 c1 ps ok _ (Kd.C_below HR0.out HB.out) HC0.out (Kd.C_below HR1.out HB.out) HC1.out N1.out).mono ?_
  rintro e w2 ⟨rfl, hb⟩
  have BD := Aside0.mk (blk_below BD.out hb)
  have BR := Aside0.mk (blk_below BR.out hb)
  have HB := Aside0.mk (below_step HB.out hb)
  clear hb hd0 hd1
  cases ok with
  | false =>
    have h := H.out
    rw [if_neg (by decide)] at h
    simp only [Option.some.injEq, Prod.mk.injEq] at h
    obtain ⟨⟨rfl, rfl, rfl, rfl⟩, rfl⟩ := h
    go_wp2_with (first | ((with_reducible refine gate_ (.store 81 (.tmp 2) (.tmp 12)) rfl ?_); refine store_blk rfl rfl 81 (.tmp 2) (.tmp 12) rfl (off := 0) (u := .agg #[.int .i64 0, .int .i64 0, .int .i64 0, .int .i64 0]) #[.int .i64 0, .int .i64 0, .int .i64 0, .int .i64 0] rfl rfl BR.out [.int .i64 0, .int .i64 0, .int .i64 0, .int .i64 0] rfl (by kernel_rfl) (Nat.le_of_ble_eq_true rfl) rfl rfl ?_; intro w9 hblk hgrw; have BR2 := Aside0.mk hblk; have HB2 := Aside0.mk (HB.out.grown hgrw HB.out.size (by intro q hq; cases hq; exact GR.out)); clear hblk hgrw))
    refine bodyPost_ret (results_cell_slot rfl _ _ gr 81 #[.int .i64 0, .int .i64 0, .int .i64 0, .int .i64 0] (0, 0) _ _ rfl rfl BR2.out Try.underlying81 rfl (by kernel_rfl)) rfl ?_
    exact ⟨rfl, HB2.out⟩
  | true =>
    have h := H.out
    rw [if_pos rfl] at h
    obtain ⟨now, H2, h⟩ := Option.bind_eq_some_iff.mp h
    obtain ⟨⟨⟨p0, p1, p2, p3⟩, pb⟩, H3, h⟩ := Option.bind_eq_some_iff.mp h
    obtain ⟨⟨⟨q0, q1, q2, q3⟩, qb⟩, H4, h⟩ := Option.bind_eq_some_iff.mp h
    have N2 := Aside0.mk H2
    have N3 := Aside0.mk H3
    have N4 := Aside0.mk H4
    have HH := Aside0.mk h
    clear H2 H3 H4 H h
    have hd0 : w2.cell? ⟨gd, 0, none⟩ = some (.slice A0 safe.length c0) := (blk_cell BD.out 0).trans rfl
    have hd1 : w2.cell? ⟨gd, 1, none⟩ = some (.slice A1 ps.length c1) := (blk_cell BD.out 1).trans rfl
    go_wp2_with fail
    refine (spec_l1Now.calls k (fun k_ => k_ < w.heap.size) A0 c0 safe (fun k_ => k_ < w.heap.size) A1 c1 ps now _ (Kd.V_mk HC0.out (Kd.F_below (Kd.C_F (Kd.heap_slice 5 (Kd.heap_int .u8)) HR0.out) HB.out)) (Kd.V_mk HC1.out (Kd.F_below (Kd.C_F k185_heap HR1.out) HB.out)) N2.out).mono ?_
    rintro e w3 ⟨vn, rfl, hv, hb⟩
    have BR := Aside0.mk (blk_below BR.out hb)
    have HB := Aside0.mk (below_step HB.out hb)
    obtain ⟨An, cn, rfl⟩ := Kd.N_slice hv
    have HCN := Aside0.mk (Kd.N_reads' hv).2.2
    have HLN := Aside0.mk (Kd.N_reads' hv).2.1
    have HW3 : Aside0 (Below w3.heap.size w3 w3) := ⟨Below.refl _ _⟩
    clear hb hv hd0 hd1
    go_wp2_with (first | ((with_reducible refine gate_dst (N := 4) rfl ?_); refine box_event ?hg (N := 4) ?hd (cs := #[.slice none 0 0]) (t := 163) ?hr ?_; (case hd => rfl); (case hg => rfl); (case hr => first | (go_simp; done) | (go_simp; rfl)); intro g4 hgr w4 hbox hbel; have Bg40 := Aside0.mk hbox; have Gg4 : Aside0 (w3.heap.size ≤ g4) := ⟨by rw [hgr]; exact HW3.out.size⟩; have Gg4w : Aside0 (w.heap.size ≤ g4) := ⟨by rw [hgr]; exact HB.out.size⟩; have Ngrg4 : Aside0 (gr ≠ g4) := ⟨by have := blk_lt BR.out; omega⟩; have BR := Aside0.mk (blk_below BR.out hbel); have HB := Aside0.mk (below_step HB.out hbel); have HW3 := Aside0.mk (below_step HW3.out hbel); clear hbox hbel hgr) | ((with_reducible refine gate_ (.store 163 (.tmp 4) (.tmp 15)) rfl ?_); refine store_blk rfl rfl 163 (.tmp 4) (.tmp 15) rfl (off := 0) (u := .agg #[.slice An now.length cn]) #[.slice An now.length cn] rfl rfl Bg40.out [.slice An now.length cn] rfl (by kernel_rfl) (Nat.le_of_ble_eq_true rfl) rfl rfl ?_; intro w4b hblk hgrw; have Bg4 := Aside0.mk hblk; have BR := Aside0.mk (blk_grown BR.out hgrw (fun e => Ngrg4.out (Option.some.inj e))); have HB := Aside0.mk (HB.out.grown hgrw HB.out.size (by intro q hq; cases hq; exact Gg4w.out)); have HW3 := Aside0.mk (HW3.out.grown hgrw HW3.out.size (by intro q hq; cases hq; exact Gg4.out)); have hm0 : w4b.cell? ⟨g4, 0, none⟩ = some (.slice An now.length cn) := (blk_cell Bg4.out 0).trans rfl; clear hblk hgrw))
    refine (spec_l2SuperAt.calls k An cn now 0 p0 p1 p2 p3 pb _ (Kd.C_below HCN.out HW3.out) HLN.out N3.out).mono ?_
    rintro e w5 ⟨rfl, hb⟩
    clear hm0
    have BR := Aside0.mk (blk_below BR.out hb)
    have Bg4 := Aside0.mk (blk_below Bg4.out hb)
    have HB := Aside0.mk (below_step HB.out hb)
    have HW3 := Aside0.mk (below_step HW3.out hb)
    clear hb
    go_wp2_with (first | ((with_reducible refine gate_dst (N := 5) rfl ?_); refine box_event ?hg (N := 5) ?hd (cs := #[.int .i64 0, .int .i64 0, .int .i64 0, .int .i64 0]) (t := 81) ?hr ?_; (case hd => rfl); (case hg => rfl); (case hr => first | (go_simp; done) | (go_simp; rfl)); intro g5 hgr w6 hbox hbel; have Bg50 := Aside0.mk hbox; have Gg5 : Aside0 (w3.heap.size ≤ g5) := ⟨by rw [hgr]; exact HW3.out.size⟩; have Gg5w : Aside0 (w.heap.size ≤ g5) := ⟨by rw [hgr]; exact HB.out.size⟩; have Ngrg5 : Aside0 (gr ≠ g5) := ⟨by have := blk_lt BR.out; omega⟩; have BR := Aside0.mk (blk_below BR.out hbel); have Ng4g5 : Aside0 (g4 ≠ g5) := ⟨by have := blk_lt Bg4.out; omega⟩; have Bg4 := Aside0.mk (blk_below Bg4.out hbel); have HB := Aside0.mk (below_step HB.out hbel); have HW3 := Aside0.mk (below_step HW3.out hbel); clear hbox hbel hgr) | ((with_reducible refine gate_ (.store 81 (.tmp 5) (.tmp 19)) rfl ?_); refine store_blk rfl rfl 81 (.tmp 5) (.tmp 19) rfl (off := 0) (u := .agg #[.int .i64 p0, .int .i64 p1, .int .i64 p2, .int .i64 p3]) #[.int .i64 p0, .int .i64 p1, .int .i64 p2, .int .i64 p3] rfl rfl Bg50.out [.int .i64 p0, .int .i64 p1, .int .i64 p2, .int .i64 p3] rfl (by kernel_rfl) (Nat.le_of_ble_eq_true rfl) rfl rfl ?_; intro w6b hblk hgrw; have Bg5 := Aside0.mk hblk; have BR := Aside0.mk (blk_grown BR.out hgrw (fun e => Ngrg5.out (Option.some.inj e))); have Bg4 := Aside0.mk (blk_grown Bg4.out hgrw (fun e => Ng4g5.out (Option.some.inj e))); have HB := Aside0.mk (HB.out.grown hgrw HB.out.size (by intro q hq; cases hq; exact Gg5w.out)); have HW3 := Aside0.mk (HW3.out.grown hgrw HW3.out.size (by intro q hq; cases hq; exact Gg5.out)); have hm0 : w6b.cell? ⟨g4, 0, none⟩ = some (.slice An now.length cn) := (blk_cell Bg4.out 0).trans rfl; clear hblk hgrw))
    refine (spec_l2SuperAt.calls k An cn now 1 q0 q1 q2 q3 qb _ (Kd.C_below HCN.out HW3.out) HLN.out N4.out).mono ?_
    rintro e w7 ⟨rfl, hb⟩
    clear hm0
    have BR := Aside0.mk (blk_below BR.out hb)
    have Bg4 := Aside0.mk (blk_below Bg4.out hb)
    have Bg5 := Aside0.mk (blk_below Bg5.out hb)
    have HB := Aside0.mk (below_step HB.out hb)
    have HW3 := Aside0.mk (below_step HW3.out hb)
    clear hb
    have h := HH.out
    cases pb with
    | false =>
      rw [if_neg (by decide)] at h
      simp only [Option.some.injEq, Prod.mk.injEq] at h
      obtain ⟨⟨rfl, rfl, rfl, rfl⟩, rfl⟩ := h
      go_wp2_with (first | ((with_reducible refine gate_dst (N := 7) rfl ?_); refine box_event ?hg (N := 7) ?hd (cs := #[.int .i64 0, .int .i64 0, .int .i64 0, .int .i64 0]) (t := 81) ?hr ?_; (case hd => rfl); (case hg => rfl); (case hr => first | (go_simp; done) | (go_simp; rfl)); intro g7 hgr w8 hbox hbel; have Bg70 := Aside0.mk hbox; have Gg7 : Aside0 (w3.heap.size ≤ g7) := ⟨by rw [hgr]; exact HW3.out.size⟩; have Gg7w : Aside0 (w.heap.size ≤ g7) := ⟨by rw [hgr]; exact HB.out.size⟩; have Ngrg7 : Aside0 (gr ≠ g7) := ⟨by have := blk_lt BR.out; omega⟩; have BR := Aside0.mk (blk_below BR.out hbel); have Ng5g7 : Aside0 (g5 ≠ g7) := ⟨by have := blk_lt Bg5.out; omega⟩; have Bg5 := Aside0.mk (blk_below Bg5.out hbel); have HB := Aside0.mk (below_step HB.out hbel); have HW3 := Aside0.mk (below_step HW3.out hbel); clear hbox hbel hgr) | ((with_reducible refine gate_ (.store 81 (.tmp 7) (.tmp 24)) rfl ?_); refine store_blk rfl rfl 81 (.tmp 7) (.tmp 24) rfl (off := 0) (u := .agg #[.int .i64 q0, .int .i64 q1, .int .i64 q2, .int .i64 q3]) #[.int .i64 q0, .int .i64 q1, .int .i64 q2, .int .i64 q3] rfl rfl Bg70.out [.int .i64 q0, .int .i64 q1, .int .i64 q2, .int .i64 q3] rfl (by kernel_rfl) (Nat.le_of_ble_eq_true rfl) rfl rfl ?_; intro w8b hblk hgrw; have Bg7 := Aside0.mk hblk; have BR := Aside0.mk (blk_grown BR.out hgrw (fun e => Ngrg7.out (Option.some.inj e))); have Bg5 := Aside0.mk (blk_grown Bg5.out hgrw (fun e => Ng5g7.out (Option.some.inj e))); have HB := Aside0.mk (HB.out.grown hgrw HB.out.size (by intro q hq; cases hq; exact Gg7w.out)); have HW3 := Aside0.mk (HW3.out.grown hgrw HW3.out.size (by intro q hq; cases hq; exact Gg7.out)); have hp0 : w8b.cell? ⟨g5, 0, none⟩ = some (.int .i64 p0) := (blk_cell Bg5.out 0).trans rfl; have hp1 : w8b.cell? ⟨g5, 1, none⟩ = some (.int .i64 p1) := (blk_cell Bg5.out 1).trans rfl; have hp2 : w8b.cell? ⟨g5, 2, none⟩ = some (.int .i64 p2) := (blk_cell Bg5.out 2).trans rfl; have hp3 : w8b.cell? ⟨g5, 3, none⟩ = some (.int .i64 p3) := (blk_cell Bg5.out 3).trans rfl; have hq0 : w8b.cell? ⟨g7, 0, none⟩ = some (.int .i64 q0) := (blk_cell Bg7.out 0).trans rfl; have hq1 : w8b.cell? ⟨g7, 1, none⟩ = some (.int .i64 q1) := (blk_cell Bg7.out 1).trans rfl; have hq2 : w8b.cell? ⟨g7, 2, none⟩ = some (.int .i64 q2) := (blk_cell Bg7.out 2).trans rfl; have hq3 : w8b.cell? ⟨g7, 3, none⟩ = some (.int .i64 q3) := (blk_cell Bg7.out 3).trans rfl; clear hblk hgrw) | ((with_reducible refine gate_ (.store 81 (.tmp 2) (.tmp 39)) rfl ?_); refine store_blk rfl rfl 81 (.tmp 2) (.tmp 39) rfl (off := 0) (u := .agg #[.int .i64 q0, .int .i64 q1, .int .i64 q2, .int .i64 q3]) #[.int .i64 q0, .int .i64 q1, .int .i64 q2, .int .i64 q3] rfl rfl BR.out [.int .i64 q0, .int .i64 q1, .int .i64 q2, .int .i64 q3] rfl (by kernel_rfl) (Nat.le_of_ble_eq_true rfl) rfl rfl ?_; intro w9 hblk hgrw; have BRF := Aside0.mk hblk; have HBF := Aside0.mk (HB.out.grown hgrw HB.out.size (by intro q hq; cases hq; exact GR.out)); clear hblk hgrw))
      refine bodyPost_ret (results_cell_slot rfl _ _ gr 81 #[.int .i64 q0, .int .i64 q1, .int .i64 q2, .int .i64 q3] (0, 0) _ _ rfl rfl BRF.out Try.underlying81 rfl (by kernel_rfl)) rfl ?_
      exact ⟨rfl, HBF.out⟩
    | true =>
      rw [if_pos rfl] at h
      cases qb with
      | false =>
        rw [if_neg (by decide)] at h
        simp only [Option.some.injEq, Prod.mk.injEq] at h
        obtain ⟨⟨rfl, rfl, rfl, rfl⟩, rfl⟩ := h
        go_wp2_with (first | ((with_reducible refine gate_dst (N := 7) rfl ?_); refine box_event ?hg (N := 7) ?hd (cs := #[.int .i64 0, .int .i64 0, .int .i64 0, .int .i64 0]) (t := 81) ?hr ?_; (case hd => rfl); (case hg => rfl); (case hr => first | (go_simp; done) | (go_simp; rfl)); intro g7 hgr w8 hbox hbel; have Bg70 := Aside0.mk hbox; have Gg7 : Aside0 (w3.heap.size ≤ g7) := ⟨by rw [hgr]; exact HW3.out.size⟩; have Gg7w : Aside0 (w.heap.size ≤ g7) := ⟨by rw [hgr]; exact HB.out.size⟩; have Ngrg7 : Aside0 (gr ≠ g7) := ⟨by have := blk_lt BR.out; omega⟩; have BR := Aside0.mk (blk_below BR.out hbel); have Ng5g7 : Aside0 (g5 ≠ g7) := ⟨by have := blk_lt Bg5.out; omega⟩; have Bg5 := Aside0.mk (blk_below Bg5.out hbel); have HB := Aside0.mk (below_step HB.out hbel); have HW3 := Aside0.mk (below_step HW3.out hbel); clear hbox hbel hgr) | ((with_reducible refine gate_ (.store 81 (.tmp 7) (.tmp 24)) rfl ?_); refine store_blk rfl rfl 81 (.tmp 7) (.tmp 24) rfl (off := 0) (u := .agg #[.int .i64 q0, .int .i64 q1, .int .i64 q2, .int .i64 q3]) #[.int .i64 q0, .int .i64 q1, .int .i64 q2, .int .i64 q3] rfl rfl Bg70.out [.int .i64 q0, .int .i64 q1, .int .i64 q2, .int .i64 q3] rfl (by kernel_rfl) (Nat.le_of_ble_eq_true rfl) rfl rfl ?_; intro w8b hblk hgrw; have Bg7 := Aside0.mk hblk; have BR := Aside0.mk (blk_grown BR.out hgrw (fun e => Ngrg7.out (Option.some.inj e))); have Bg5 := Aside0.mk (blk_grown Bg5.out hgrw (fun e => Ng5g7.out (Option.some.inj e))); have HB := Aside0.mk (HB.out.grown hgrw HB.out.size (by intro q hq; cases hq; exact Gg7w.out)); have HW3 := Aside0.mk (HW3.out.grown hgrw HW3.out.size (by intro q hq; cases hq; exact Gg7.out)); have hp0 : w8b.cell? ⟨g5, 0, none⟩ = some (.int .i64 p0) := (blk_cell Bg5.out 0).trans rfl; have hp1 : w8b.cell? ⟨g5, 1, none⟩ = some (.int .i64 p1) := (blk_cell Bg5.out 1).trans rfl; have hp2 : w8b.cell? ⟨g5, 2, none⟩ = some (.int .i64 p2) := (blk_cell Bg5.out 2).trans rfl; have hp3 : w8b.cell? ⟨g5, 3, none⟩ = some (.int .i64 p3) := (blk_cell Bg5.out 3).trans rfl; have hq0 : w8b.cell? ⟨g7, 0, none⟩ = some (.int .i64 q0) := (blk_cell Bg7.out 0).trans rfl; have hq1 : w8b.cell? ⟨g7, 1, none⟩ = some (.int .i64 q1) := (blk_cell Bg7.out 1).trans rfl; have hq2 : w8b.cell? ⟨g7, 2, none⟩ = some (.int .i64 q2) := (blk_cell Bg7.out 2).trans rfl; have hq3 : w8b.cell? ⟨g7, 3, none⟩ = some (.int .i64 q3) := (blk_cell Bg7.out 3).trans rfl; clear hblk hgrw) | ((with_reducible refine gate_ (.store 81 (.tmp 2) (.tmp 38)) rfl ?_); refine store_blk rfl rfl 81 (.tmp 2) (.tmp 38) rfl (off := 0) (u := .agg #[.int .i64 p0, .int .i64 p1, .int .i64 p2, .int .i64 p3]) #[.int .i64 p0, .int .i64 p1, .int .i64 p2, .int .i64 p3] rfl rfl BR.out [.int .i64 p0, .int .i64 p1, .int .i64 p2, .int .i64 p3] rfl (by kernel_rfl) (Nat.le_of_ble_eq_true rfl) rfl rfl ?_; intro w9 hblk hgrw; have BRF := Aside0.mk hblk; have HBF := Aside0.mk (HB.out.grown hgrw HB.out.size (by intro q hq; cases hq; exact GR.out)); clear hblk hgrw))
        refine bodyPost_ret (results_cell_slot rfl _ _ gr 81 #[.int .i64 p0, .int .i64 p1, .int .i64 p2, .int .i64 p3] (0, 0) _ _ rfl rfl BRF.out Try.underlying81 rfl (by kernel_rfl)) rfl ?_
        exact ⟨rfl, HBF.out⟩
      | true =>
        rw [if_pos rfl] at h
        by_cases hlt : q0 < p0
        · rw [if_pos hlt] at h
          simp only [Option.some.injEq, Prod.mk.injEq] at h
          obtain ⟨⟨rfl, rfl, rfl, rfl⟩, rfl⟩ := h
          have e3 : decide (q0 < p0) = true := decide_eq_true hlt
          go_wp2_with (first | ((with_reducible refine gate_dst (N := 7) rfl ?_); refine box_event ?hg (N := 7) ?hd (cs := #[.int .i64 0, .int .i64 0, .int .i64 0, .int .i64 0]) (t := 81) ?hr ?_; (case hd => rfl); (case hg => rfl); (case hr => first | (go_simp; done) | (go_simp; rfl)); intro g7 hgr w8 hbox hbel; have Bg70 := Aside0.mk hbox; have Gg7 : Aside0 (w3.heap.size ≤ g7) := ⟨by rw [hgr]; exact HW3.out.size⟩; have Gg7w : Aside0 (w.heap.size ≤ g7) := ⟨by rw [hgr]; exact HB.out.size⟩; have Ngrg7 : Aside0 (gr ≠ g7) := ⟨by have := blk_lt BR.out; omega⟩; have BR := Aside0.mk (blk_below BR.out hbel); have Ng5g7 : Aside0 (g5 ≠ g7) := ⟨by have := blk_lt Bg5.out; omega⟩; have Bg5 := Aside0.mk (blk_below Bg5.out hbel); have HB := Aside0.mk (below_step HB.out hbel); have HW3 := Aside0.mk (below_step HW3.out hbel); clear hbox hbel hgr) | ((with_reducible refine gate_ (.store 81 (.tmp 7) (.tmp 24)) rfl ?_); refine store_blk rfl rfl 81 (.tmp 7) (.tmp 24) rfl (off := 0) (u := .agg #[.int .i64 q0, .int .i64 q1, .int .i64 q2, .int .i64 q3]) #[.int .i64 q0, .int .i64 q1, .int .i64 q2, .int .i64 q3] rfl rfl Bg70.out [.int .i64 q0, .int .i64 q1, .int .i64 q2, .int .i64 q3] rfl (by kernel_rfl) (Nat.le_of_ble_eq_true rfl) rfl rfl ?_; intro w8b hblk hgrw; have Bg7 := Aside0.mk hblk; have BR := Aside0.mk (blk_grown BR.out hgrw (fun e => Ngrg7.out (Option.some.inj e))); have Bg5 := Aside0.mk (blk_grown Bg5.out hgrw (fun e => Ng5g7.out (Option.some.inj e))); have HB := Aside0.mk (HB.out.grown hgrw HB.out.size (by intro q hq; cases hq; exact Gg7w.out)); have HW3 := Aside0.mk (HW3.out.grown hgrw HW3.out.size (by intro q hq; cases hq; exact Gg7.out)); have hp0 : w8b.cell? ⟨g5, 0, none⟩ = some (.int .i64 p0) := (blk_cell Bg5.out 0).trans rfl; have hp1 : w8b.cell? ⟨g5, 1, none⟩ = some (.int .i64 p1) := (blk_cell Bg5.out 1).trans rfl; have hp2 : w8b.cell? ⟨g5, 2, none⟩ = some (.int .i64 p2) := (blk_cell Bg5.out 2).trans rfl; have hp3 : w8b.cell? ⟨g5, 3, none⟩ = some (.int .i64 p3) := (blk_cell Bg5.out 3).trans rfl; have hq0 : w8b.cell? ⟨g7, 0, none⟩ = some (.int .i64 q0) := (blk_cell Bg7.out 0).trans rfl; have hq1 : w8b.cell? ⟨g7, 1, none⟩ = some (.int .i64 q1) := (blk_cell Bg7.out 1).trans rfl; have hq2 : w8b.cell? ⟨g7, 2, none⟩ = some (.int .i64 q2) := (blk_cell Bg7.out 2).trans rfl; have hq3 : w8b.cell? ⟨g7, 3, none⟩ = some (.int .i64 q3) := (blk_cell Bg7.out 3).trans rfl; clear hblk hgrw) | ((with_reducible refine gate_ (.store 81 (.tmp 2) (.tmp 38)) rfl ?_); refine store_blk rfl rfl 81 (.tmp 2) (.tmp 38) rfl (off := 0) (u := .agg #[.int .i64 p0, .int .i64 p1, .int .i64 p2, .int .i64 p3]) #[.int .i64 p0, .int .i64 p1, .int .i64 p2, .int .i64 p3] rfl rfl BR.out [.int .i64 p0, .int .i64 p1, .int .i64 p2, .int .i64 p3] rfl (by kernel_rfl) (Nat.le_of_ble_eq_true rfl) rfl rfl ?_; intro w9 hblk hgrw; have BRF := Aside0.mk hblk; have HBF := Aside0.mk (HB.out.grown hgrw HB.out.size (by intro q hq; cases hq; exact GR.out)); clear hblk hgrw))
          refine bodyPost_ret (results_cell_slot rfl _ _ gr 81 #[.int .i64 p0, .int .i64 p1, .int .i64 p2, .int .i64 p3] (0, 0) _ _ rfl rfl BRF.out Try.underlying81 rfl (by kernel_rfl)) rfl ?_
          exact ⟨rfl, HBF.out⟩
        · rw [if_neg hlt] at h
          simp only [Option.some.injEq, Prod.mk.injEq] at h
          obtain ⟨⟨rfl, rfl, rfl, rfl⟩, rfl⟩ := h
          have e3 : decide (q0 < p0) = false := decide_eq_false hlt
          go_wp2_with (first | ((with_reducible refine gate_dst (N := 7) rfl ?_); refine box_event ?hg (N := 7) ?hd (cs := #[.int .i64 0, .int .i64 0, .int .i64 0, .int .i64 0]) (t := 81) ?hr ?_; (case hd => rfl); (case hg => rfl); (case hr => first | (go_simp; done) | (go_simp; rfl)); intro g7 hgr w8 hbox hbel; have Bg70 := Aside0.mk hbox; have Gg7 : Aside0 (w3.heap.size ≤ g7) := ⟨by rw [hgr]; exact HW3.out.size⟩; have Gg7w : Aside0 (w.heap.size ≤ g7) := ⟨by rw [hgr]; exact HB.out.size⟩; have Ngrg7 : Aside0 (gr ≠ g7) := ⟨by have := blk_lt BR.out; omega⟩; have BR := Aside0.mk (blk_below BR.out hbel); have Ng5g7 : Aside0 (g5 ≠ g7) := ⟨by have := blk_lt Bg5.out; omega⟩; have Bg5 := Aside0.mk (blk_below Bg5.out hbel); have HB := Aside0.mk (below_step HB.out hbel); have HW3 := Aside0.mk (below_step HW3.out hbel); clear hbox hbel hgr) | ((with_reducible refine gate_ (.store 81 (.tmp 7) (.tmp 24)) rfl ?_); refine store_blk rfl rfl 81 (.tmp 7) (.tmp 24) rfl (off := 0) (u := .agg #[.int .i64 q0, .int .i64 q1, .int .i64 q2, .int .i64 q3]) #[.int .i64 q0, .int .i64 q1, .int .i64 q2, .int .i64 q3] rfl rfl Bg70.out [.int .i64 q0, .int .i64 q1, .int .i64 q2, .int .i64 q3] rfl (by kernel_rfl) (Nat.le_of_ble_eq_true rfl) rfl rfl ?_; intro w8b hblk hgrw; have Bg7 := Aside0.mk hblk; have BR := Aside0.mk (blk_grown BR.out hgrw (fun e => Ngrg7.out (Option.some.inj e))); have Bg5 := Aside0.mk (blk_grown Bg5.out hgrw (fun e => Ng5g7.out (Option.some.inj e))); have HB := Aside0.mk (HB.out.grown hgrw HB.out.size (by intro q hq; cases hq; exact Gg7w.out)); have HW3 := Aside0.mk (HW3.out.grown hgrw HW3.out.size (by intro q hq; cases hq; exact Gg7.out)); have hp0 : w8b.cell? ⟨g5, 0, none⟩ = some (.int .i64 p0) := (blk_cell Bg5.out 0).trans rfl; have hp1 : w8b.cell? ⟨g5, 1, none⟩ = some (.int .i64 p1) := (blk_cell Bg5.out 1).trans rfl; have hp2 : w8b.cell? ⟨g5, 2, none⟩ = some (.int .i64 p2) := (blk_cell Bg5.out 2).trans rfl; have hp3 : w8b.cell? ⟨g5, 3, none⟩ = some (.int .i64 p3) := (blk_cell Bg5.out 3).trans rfl; have hq0 : w8b.cell? ⟨g7, 0, none⟩ = some (.int .i64 q0) := (blk_cell Bg7.out 0).trans rfl; have hq1 : w8b.cell? ⟨g7, 1, none⟩ = some (.int .i64 q1) := (blk_cell Bg7.out 1).trans rfl; have hq2 : w8b.cell? ⟨g7, 2, none⟩ = some (.int .i64 q2) := (blk_cell Bg7.out 2).trans rfl; have hq3 : w8b.cell? ⟨g7, 3, none⟩ = some (.int .i64 q3) := (blk_cell Bg7.out 3).trans rfl; clear hblk hgrw) | ((with_reducible refine gate_ (.store 81 (.tmp 2) (.tmp 39)) rfl ?_); refine store_blk rfl rfl 81 (.tmp 2) (.tmp 39) rfl (off := 0) (u := .agg #[.int .i64 q0, .int .i64 q1, .int .i64 q2, .int .i64 q3]) #[.int .i64 q0, .int .i64 q1, .int .i64 q2, .int .i64 q3] rfl rfl BR.out [.int .i64 q0, .int .i64 q1, .int .i64 q2, .int .i64 q3] rfl (by kernel_rfl) (Nat.le_of_ble_eq_true rfl) rfl rfl ?_; intro w9 hblk hgrw; have BRF := Aside0.mk hblk; have HBF := Aside0.mk (HB.out.grown hgrw HB.out.size (by intro q hq; cases hq; exact GR.out)); clear hblk hgrw))
          refine bodyPost_ret (results_cell_slot rfl _ _ gr 81 #[.int .i64 q0, .int .i64 q1, .int .i64 q2, .int .i64 q3] (0, 0) _ _ rfl rfl BRF.out Try.underlying81 rfl (by kernel_rfl)) rfl ?_
          exact ⟨rfl, HBF.out⟩
end Go.Proofs.Ytlopmffdebhpfaa.G

/-! ## BSup -/
namespace Go.Proofs.Ytlopmffdebhpfaa.G
open Go.RowKit Go.Proofs.YtlopmffdebhpfaaW.PrintWords Go.Proofs.YtlopmffdebhpfaaW.PrintLast Go.Proofs.YtlopmffdebhpfaaW.PrintMore
set_option linter.unusedVariables false
set_option linter.unusedSimpArgs false

def impl_BestSuper.f (k : Nat) (safe : List (List Int)) (ps : List S185) : Option ((Int × Int × Int × Int) × Bool) :=
  (impl_DiskOk.f k safe ps).bind fun ok => if ok = true then ((bestN k safe ps 2).bind fun r => some (r, decide (0 < r.1))) else some ((0, 0, 0, 0), false)
set_option maxHeartbeats 4000000 in
set_option maxRecDepth 100000 in
theorem impl_BestSuper.calls (k : Nat) (A0 : Option Addr) (c0 : Nat) (safe : List (List Int)) (A1 : Option Addr) (c1 : Nat) (ps : List S185) (r0 r1 r2 r3 : Int) (rb : Bool) (w : World) (hr0 : Kd.C (Kd.slice 5 (Kd.int .u8)) w A0 safe.length safe) (hc0 : safe.length ≤ c0) (hr1 : Kd.C k185 w A1 ps.length ps) (hc1 : ps.length ≤ c1)
    (hwf : ∀ p ∈ ps, (Lit.int .i64 p.f0).wf = true) (h : impl_BestSuper.f k safe ps = some ((r0, r1, r2, r3), rb)) :
    Calls Try.prog 53 #[.agg #[.slice A0 safe.length c0, .slice A1 ps.length c1]] w fun e w' => e = .returned (.tuple #[.agg #[.int .i64 r0, .int .i64 r1, .int .i64 r2, .int .i64 r3], .bool rb]) ∧ Below w.heap.size w w' := by
  have hu44 := Try.underlying44
  have hu81 := Try.underlying81
  have HR0 := Aside0.mk hr0
  have HR1 := Aside0.mk hr1
  have HC0 := Aside0.mk hc0
  have HC1 := Aside0.mk hc1
  clear hr0 hr1 hc0 hc1
  unfold impl_BestSuper.f at h
  obtain ⟨ok, H1, h⟩ := Option.bind_eq_some_iff.mp h
  have N1 := Aside0.mk H1
  have H := Aside0.mk h
  have HWF := Aside0.mk hwf
  clear H1 h hwf
  go_enter Try.func53, Try.ntmps53
  go_wp2_with (first | ((with_reducible refine gate_dst (N := 1) rfl ?_); refine box_event ?hg (N := 1) ?hd (cs := #[.slice A0 safe.length c0, .slice A1 ps.length c1]) (t := 44) ?hr ?_; (case hd => rfl); (case hg => rfl); (case hr => first | (go_simp; done) | (go_simp; rfl)); intro gd hgr w1 hbox hbel; have BD := Aside0.mk hbox; have HB := Aside0.mk hbel; have hd0 : w1.cell? ⟨gd, 0, none⟩ = some (.slice A0 safe.length c0) := (blk_cell hbox 0).trans rfl; clear hbox hbel hgr) | ((with_reducible refine gate_dst (N := 2) rfl ?_); refine box_event ?hg (N := 2) ?hd (cs := #[.int .i64 0, .int .i64 0, .int .i64 0, .int .i64 0]) (t := 81) ?hr ?_; (case hd => rfl); (case hg => rfl); (case hr => first | (go_simp; done) | (go_simp; rfl)); intro gr hgr w1b hbox hbel; have BR := Aside0.mk hbox; have GR : Aside0 (w.heap.size ≤ gr) := ⟨by rw [hgr]; exact HB.out.size⟩; have BD := Aside0.mk (blk_below BD.out hbel); have HB := Aside0.mk (below_step HB.out hbel); have hd0 : w1b.cell? ⟨gd, 0, none⟩ = some (.slice A0 safe.length c0) := (blk_cell BD.out 0).trans rfl; have hd1 : w1b.cell? ⟨gd, 1, none⟩ = some (.slice A1 ps.length c1) := (blk_cell BD.out 1).trans rfl; clear hbox hbel hgr))
  refine (impl_DiskOk.calls k A0 c0 safe A1 c1 ps ok _ (Kd.C_below HR0.out HB.out) HC0.out (Kd.C_below HR1.out HB.out) HC1.out N1.out).mono ?_
  rintro e w2 ⟨rfl, hb⟩
  have BD := Aside0.mk (blk_below BD.out hb)
  have BR := Aside0.mk (blk_below BR.out hb)
  have HB := Aside0.mk (below_step HB.out hb)
  clear hb hd0 hd1
  cases ok with
  | false =>
    have h := H.out
    rw [if_neg (by decide)] at h
    simp only [Option.some.injEq, Prod.mk.injEq] at h
    obtain ⟨⟨rfl, rfl, rfl, rfl⟩, rfl⟩ := h
    go_wp2_with (first | ((with_reducible refine gate_ (.store 81 (.tmp 2) (.tmp 7)) rfl ?_); refine store_blk rfl rfl 81 (.tmp 2) (.tmp 7) rfl (off := 0) (u := .agg #[.int .i64 0, .int .i64 0, .int .i64 0, .int .i64 0]) #[.int .i64 0, .int .i64 0, .int .i64 0, .int .i64 0] rfl rfl BR.out [.int .i64 0, .int .i64 0, .int .i64 0, .int .i64 0] rfl (by kernel_rfl) (Nat.le_of_ble_eq_true rfl) rfl rfl ?_; intro w9 hblk hgrw; have BR2 := Aside0.mk hblk; have HB2 := Aside0.mk (HB.out.grown hgrw HB.out.size (by intro q hq; cases hq; exact GR.out)); clear hblk hgrw))
    refine bodyPost_ret (results_cell_slot rfl _ _ gr 81 #[.int .i64 0, .int .i64 0, .int .i64 0, .int .i64 0] (0, 0) _ _ rfl rfl BR2.out Try.underlying81 rfl (by kernel_rfl)) rfl ?_
    exact ⟨rfl, HB2.out⟩
  | true =>
    have h := H.out
    rw [if_pos rfl] at h
    obtain ⟨r, H2, h⟩ := Option.bind_eq_some_iff.mp h
    simp only [Option.some.injEq, Prod.mk.injEq] at h
    obtain ⟨rfl, rfl⟩ := h
    have N2 := Aside0.mk H2
    clear H2 H
    have hd0 : w2.cell? ⟨gd, 0, none⟩ = some (.slice A0 safe.length c0) := (blk_cell BD.out 0).trans rfl
    have hd1 : w2.cell? ⟨gd, 1, none⟩ = some (.slice A1 ps.length c1) := (blk_cell BD.out 1).trans rfl
    go_wp2_with fail
    refine (impl_deviceOf.calls A0 safe.length c0 A1 c1 ps _ (Kd.C_below HR1.out HB.out) HC1.out HWF.out).mono ?_
    rintro e w3 ⟨g, bm, rfl, hdev, hmap, hg, hbm, hgb, hb⟩
    have BR := Aside0.mk (blk_below BR.out hb)
    have HG := Aside0.mk (Nat.le_trans HB.out.size hg)
    have HB := Aside0.mk (below_step HB.out hb)
    have HDEV := Aside0.mk hdev
    have HMAP := Aside0.mk hmap
    clear hdev hmap hbm hb hd0 hd1 hg
    go_wp2_with fail
    refine (impl_bestSuper.calls k g bm _ A0 c0 safe A1 c1 ps (r0, r1, r2, r3) w _ HDEV.out HMAP.out hgb HB.out HG.out HR0.out HR1.out HC0.out HC1.out N2.out).mono ?_
    rintro e w4 ⟨rfl, hb⟩
    have BR := Aside0.mk (blk_below BR.out hb)
    have HB := Aside0.mk (below_step HB.out hb)
    clear hb HDEV HMAP
    go_wp2_with (first | ((with_reducible refine gate_ (.store 81 (.tmp 2) (.tmp 11)) rfl ?_); refine store_blk rfl rfl 81 (.tmp 2) (.tmp 11) rfl (off := 0) (u := .agg #[.int .i64 r0, .int .i64 r1, .int .i64 r2, .int .i64 r3]) #[.int .i64 r0, .int .i64 r1, .int .i64 r2, .int .i64 r3] rfl rfl BR.out [.int .i64 r0, .int .i64 r1, .int .i64 r2, .int .i64 r3] rfl (by kernel_rfl) (Nat.le_of_ble_eq_true rfl) rfl rfl ?_; intro w9 hblk hgrw; have BR2 := Aside0.mk hblk; have HB2 := Aside0.mk (HB.out.grown hgrw HB.out.size (by intro q hq; cases hq; exact GR.out)); clear hblk hgrw))
    refine bodyPost_ret (results_cell_slot rfl _ _ gr 81 #[.int .i64 r0, .int .i64 r1, .int .i64 r2, .int .i64 r3] (0, 0) _ _ rfl rfl BR2.out Try.underlying81 rfl (by kernel_rfl)) rfl ?_
    exact ⟨rfl, HB2.out⟩
end Go.Proofs.Ytlopmffdebhpfaa.G

/-! ## G54 -/
namespace Go.Proofs.Ytlopmffdebhpfaa.G
open Go.RowKit Go.Proofs.YtlopmffdebhpfaaW.PrintWords Go.Proofs.YtlopmffdebhpfaaW.PrintLast Go.Proofs.YtlopmffdebhpfaaW.PrintMore
attribute [local go_sem] max2_int min2_int max_two min_two max_three min_three max_four min_four
set_option linter.unusedVariables false
set_option linter.unusedSimpArgs false

/-! ### laws_eqSuper: function 54 -/
def laws_eqSuper.f (a0_0 : Int) (a0_1 : Int) (a0_2 : Int) (a0_3 : Int) (a1_0 : Int) (a1_1 : Int) (a1_2 : Int) (a1_3 : Int) : Option (Bool) := if a0_0 = a1_0 then (if a0_1 = a1_1 then (if a0_2 = a1_2 then (if a0_3 = a1_3 then (some true) else (some false)) else (some false)) else (some false)) else (some false)
set_option maxHeartbeats 8000000 in
set_option maxRecDepth 100000 in
theorem laws_eqSuper.calls (a0_0 : Int) (a0_1 : Int) (a0_2 : Int) (a0_3 : Int) (a1_0 : Int) (a1_1 : Int) (a1_2 : Int) (a1_3 : Int) (r : Bool) (w : World) (h : laws_eqSuper.f a0_0 a0_1 a0_2 a0_3 a1_0 a1_1 a1_2 a1_3 = some r) :
    Calls Try.prog 54 #[.agg #[.int .i64 a0_0, .int .i64 a0_1, .int .i64 a0_2, .int .i64 a0_3], .agg #[.int .i64 a1_0, .int .i64 a1_1, .int .i64 a1_2, .int .i64 a1_3]] w fun e w' => e = .returned (.bool r) ∧ Below w.heap.size w w' := by
  have hu81 := Try.underlying81
  have HB := Aside0.mk (Below.refl w.heap.size w)
  have H : (if a0_0 = a1_0 then (if a0_1 = a1_1 then (if a0_2 = a1_2 then (if a0_3 = a1_3 then (some true) else (some false)) else (some false)) else (some false)) else (some false)) = some r := h
  clear h
  by_cases c3 : a0_0 = a1_0
  · rw [if_pos c3] at H
    have c3b0 : (a0_0 == a1_0) = true := beq_iff_eq.mpr c3
    have c3b1 : (a0_0 != a1_0) = false := bne_eq_false_iff_eq.mpr c3
    clear c3
    by_cases c4 : a0_1 = a1_1
    · rw [if_pos c4] at H
      have c4b0 : (a0_1 == a1_1) = true := beq_iff_eq.mpr c4
      have c4b1 : (a0_1 != a1_1) = false := bne_eq_false_iff_eq.mpr c4
      clear c4
      by_cases c5 : a0_2 = a1_2
      · rw [if_pos c5] at H
        have c5b0 : (a0_2 == a1_2) = true := beq_iff_eq.mpr c5
        have c5b1 : (a0_2 != a1_2) = false := bne_eq_false_iff_eq.mpr c5
        clear c5
        by_cases c6 : a0_3 = a1_3
        · rw [if_pos c6] at H
          have c6b0 : (a0_3 == a1_3) = true := beq_iff_eq.mpr c6
          have c6b1 : (a0_3 != a1_3) = false := bne_eq_false_iff_eq.mpr c6
          clear c6
          obtain rfl := Option.some.inj H
          go_enter Try.func54, Try.ntmps54
          go_wp2_with (first | ((with_reducible refine gate_dst (N := 2) rfl ?_); refine box_event ?hg (N := 2) ?hd (cs := #[.int .i64 a0_0, .int .i64 a0_1, .int .i64 a0_2, .int .i64 a0_3]) (t := 81) ?hr ?_; (case hd => rfl); (case hg => rfl); (case hr => first | (go_simp; done) | (go_simp; rfl)); intro gb825 hg w7 hbox hb; have n0_ := Aside0.mk (below_step (by repeat (first | (with_reducible first | exact HB.out | apply below_alloc | apply pw_below_drewN | apply below_drew1) | exact HB.out)) hb); have n1_ := Aside0.mk (hbox); have n2_ := Aside0.mk ((by rw [hg]; exact (below_size (by repeat (first | (with_reducible first | exact HB.out | apply below_alloc | apply pw_below_drewN | apply below_drew1) | exact HB.out))) : w.heap.size ≤ gb825)); have n3_ := Aside0.mk ((by rw [hg]; exact (below_size (by repeat (first | (with_reducible first | exact HB.out | apply below_alloc | apply pw_below_drewN | apply below_drew1) | exact HB.out))) : w.heap.size ≤ gb825)); clear HB; have HB := n0_; have BK825 := n1_; have GW825 := n2_; have GE825 := n3_; clear n0_ n1_ n2_ n3_; clear hb hbox hg) | ((with_reducible refine gate_dst (N := 3) rfl ?_); refine box_event ?hg (N := 3) ?hd (cs := #[.int .i64 a1_0, .int .i64 a1_1, .int .i64 a1_2, .int .i64 a1_3]) (t := 81) ?hr ?_; (case hd => rfl); (case hg => rfl); (case hr => first | (go_simp; done) | (go_simp; rfl)); intro gb826 hg w8 hbox hb; have n0_ := Aside0.mk (blk_below (g := gb825) (o := .cells #[.int .i64 a0_0, .int .i64 a0_1, .int .i64 a0_2, .int .i64 a0_3] 81 (0, 0)) (by (with_reducible repeat (first | refine blk_drewN ?_ _ | refine blk_drew ?_ | refine blk_alloc ?_ _)); exact BK825.out) hb); have n1_ := Aside0.mk (below_step (by repeat (first | (with_reducible first | exact HB.out | apply below_alloc | apply pw_below_drewN | apply below_drew1 | refine below_set ?_ GE825.out) | exact HB.out)) hb); have n2_ := Aside0.mk (hbox); have n3_ := Aside0.mk ((by rw [hg]; exact (below_size (by repeat (first | (with_reducible first | exact HB.out | apply below_alloc | apply pw_below_drewN | apply below_drew1 | refine below_set ?_ GE825.out) | exact HB.out))) : w.heap.size ≤ gb826)); have n4_ := Aside0.mk ((by rw [hg]; exact (below_size (by repeat (first | (with_reducible first | exact HB.out | apply below_alloc | apply pw_below_drewN | apply below_drew1 | refine below_set ?_ GE825.out) | exact HB.out))) : w.heap.size ≤ gb826)); have n5_ := Aside0.mk ((by rw [hg]; exact Nat.ne_of_lt (blk_lt (g := gb825) (o := .cells #[.int .i64 a0_0, .int .i64 a0_1, .int .i64 a0_2, .int .i64 a0_3] 81 (0, 0)) (by (with_reducible repeat (first | refine blk_drewN ?_ _ | refine blk_drew ?_ | refine blk_alloc ?_ _)); exact BK825.out)) : gb825 ≠ gb826)); have n6_ := Aside0.mk ((by rw [hg]; exact Nat.ne_of_gt (blk_lt (g := gb825) (o := .cells #[.int .i64 a0_0, .int .i64 a0_1, .int .i64 a0_2, .int .i64 a0_3] 81 (0, 0)) (by (with_reducible repeat (first | refine blk_drewN ?_ _ | refine blk_drew ?_ | refine blk_alloc ?_ _)); exact BK825.out)) : gb826 ≠ gb825)); clear BK825; clear HB; have BK825 := n0_; have HB := n1_; have BK826 := n2_; have GW826 := n3_; have GE826 := n4_; have NB825_826 := n5_; have NB826_825 := n6_; clear n0_ n1_ n2_ n3_ n4_ n5_ n6_; clear hb hbox hg; have hnb9 := NB825_826.out; have hnc9 := NB826_825.out; have hcz10_0 : w8.cell? ⟨gb825, 0, none⟩ = some (.int .i64 a0_0) := (blk_cell BK825.out 0).trans rfl; have hcz10_1 : w8.cell? ⟨gb825, 1, none⟩ = some (.int .i64 a0_1) := (blk_cell BK825.out 1).trans rfl; have hcz10_2 : w8.cell? ⟨gb825, 2, none⟩ = some (.int .i64 a0_2) := (blk_cell BK825.out 2).trans rfl; have hcz10_3 : w8.cell? ⟨gb825, 3, none⟩ = some (.int .i64 a0_3) := (blk_cell BK825.out 3).trans rfl; have hfz10_0 := blk_frozen BK825.out 0; have hfz10_1 := blk_frozen BK825.out 1; have hfz10_2 := blk_frozen BK825.out 2; have hfz10_3 := blk_frozen BK825.out 3; have hcz11_0 : w8.cell? ⟨gb826, 0, none⟩ = some (.int .i64 a1_0) := (blk_cell BK826.out 0).trans rfl; have hcz11_1 : w8.cell? ⟨gb826, 1, none⟩ = some (.int .i64 a1_1) := (blk_cell BK826.out 1).trans rfl; have hcz11_2 : w8.cell? ⟨gb826, 2, none⟩ = some (.int .i64 a1_2) := (blk_cell BK826.out 2).trans rfl; have hcz11_3 : w8.cell? ⟨gb826, 3, none⟩ = some (.int .i64 a1_3) := (blk_cell BK826.out 3).trans rfl; have hfz11_0 := blk_frozen BK826.out 0; have hfz11_1 := blk_frozen BK826.out 1; have hfz11_2 := blk_frozen BK826.out 2; have hfz11_3 := blk_frozen BK826.out 3))
          go_ret
          exact ⟨by first | rfl | (simp [errW_none, errW_some] <;> rfl) | (simp [*, errW_none, errW_some] <;> rfl), by repeat (first | (with_reducible first | exact HB.out | apply below_alloc | apply pw_below_drewN | apply below_drew1 | refine below_set ?_ GE825.out | refine below_set ?_ GE826.out) | exact HB.out)⟩
        · rw [if_neg c6] at H
          have c6b0 : (a0_3 == a1_3) = false := beq_eq_false_iff_ne.mpr c6
          have c6b1 : (a0_3 != a1_3) = true := bne_iff_ne.mpr c6
          obtain rfl := Option.some.inj H
          go_enter Try.func54, Try.ntmps54
          go_wp2_with (first | ((with_reducible refine gate_dst (N := 2) rfl ?_); refine box_event ?hg (N := 2) ?hd (cs := #[.int .i64 a0_0, .int .i64 a0_1, .int .i64 a0_2, .int .i64 a0_3]) (t := 81) ?hr ?_; (case hd => rfl); (case hg => rfl); (case hr => first | (go_simp; done) | (go_simp; rfl)); intro gb825 hg w12 hbox hb; have n0_ := Aside0.mk (below_step (by repeat (first | (with_reducible first | exact HB.out | apply below_alloc | apply pw_below_drewN | apply below_drew1) | exact HB.out)) hb); have n1_ := Aside0.mk (hbox); have n2_ := Aside0.mk ((by rw [hg]; exact (below_size (by repeat (first | (with_reducible first | exact HB.out | apply below_alloc | apply pw_below_drewN | apply below_drew1) | exact HB.out))) : w.heap.size ≤ gb825)); have n3_ := Aside0.mk ((by rw [hg]; exact (below_size (by repeat (first | (with_reducible first | exact HB.out | apply below_alloc | apply pw_below_drewN | apply below_drew1) | exact HB.out))) : w.heap.size ≤ gb825)); clear HB; have HB := n0_; have BK825 := n1_; have GW825 := n2_; have GE825 := n3_; clear n0_ n1_ n2_ n3_; clear hb hbox hg) | ((with_reducible refine gate_dst (N := 3) rfl ?_); refine box_event ?hg (N := 3) ?hd (cs := #[.int .i64 a1_0, .int .i64 a1_1, .int .i64 a1_2, .int .i64 a1_3]) (t := 81) ?hr ?_; (case hd => rfl); (case hg => rfl); (case hr => first | (go_simp; done) | (go_simp; rfl)); intro gb826 hg w13 hbox hb; have n0_ := Aside0.mk (blk_below (g := gb825) (o := .cells #[.int .i64 a0_0, .int .i64 a0_1, .int .i64 a0_2, .int .i64 a0_3] 81 (0, 0)) (by (with_reducible repeat (first | refine blk_drewN ?_ _ | refine blk_drew ?_ | refine blk_alloc ?_ _)); exact BK825.out) hb); have n1_ := Aside0.mk (below_step (by repeat (first | (with_reducible first | exact HB.out | apply below_alloc | apply pw_below_drewN | apply below_drew1 | refine below_set ?_ GE825.out) | exact HB.out)) hb); have n2_ := Aside0.mk (hbox); have n3_ := Aside0.mk ((by rw [hg]; exact (below_size (by repeat (first | (with_reducible first | exact HB.out | apply below_alloc | apply pw_below_drewN | apply below_drew1 | refine below_set ?_ GE825.out) | exact HB.out))) : w.heap.size ≤ gb826)); have n4_ := Aside0.mk ((by rw [hg]; exact (below_size (by repeat (first | (with_reducible first | exact HB.out | apply below_alloc | apply pw_below_drewN | apply below_drew1 | refine below_set ?_ GE825.out) | exact HB.out))) : w.heap.size ≤ gb826)); have n5_ := Aside0.mk ((by rw [hg]; exact Nat.ne_of_lt (blk_lt (g := gb825) (o := .cells #[.int .i64 a0_0, .int .i64 a0_1, .int .i64 a0_2, .int .i64 a0_3] 81 (0, 0)) (by (with_reducible repeat (first | refine blk_drewN ?_ _ | refine blk_drew ?_ | refine blk_alloc ?_ _)); exact BK825.out)) : gb825 ≠ gb826)); have n6_ := Aside0.mk ((by rw [hg]; exact Nat.ne_of_gt (blk_lt (g := gb825) (o := .cells #[.int .i64 a0_0, .int .i64 a0_1, .int .i64 a0_2, .int .i64 a0_3] 81 (0, 0)) (by (with_reducible repeat (first | refine blk_drewN ?_ _ | refine blk_drew ?_ | refine blk_alloc ?_ _)); exact BK825.out)) : gb826 ≠ gb825)); clear BK825; clear HB; have BK825 := n0_; have HB := n1_; have BK826 := n2_; have GW826 := n3_; have GE826 := n4_; have NB825_826 := n5_; have NB826_825 := n6_; clear n0_ n1_ n2_ n3_ n4_ n5_ n6_; clear hb hbox hg; have hnb14 := NB825_826.out; have hnc14 := NB826_825.out; have hcz15_0 : w13.cell? ⟨gb825, 0, none⟩ = some (.int .i64 a0_0) := (blk_cell BK825.out 0).trans rfl; have hcz15_1 : w13.cell? ⟨gb825, 1, none⟩ = some (.int .i64 a0_1) := (blk_cell BK825.out 1).trans rfl; have hcz15_2 : w13.cell? ⟨gb825, 2, none⟩ = some (.int .i64 a0_2) := (blk_cell BK825.out 2).trans rfl; have hcz15_3 : w13.cell? ⟨gb825, 3, none⟩ = some (.int .i64 a0_3) := (blk_cell BK825.out 3).trans rfl; have hfz15_0 := blk_frozen BK825.out 0; have hfz15_1 := blk_frozen BK825.out 1; have hfz15_2 := blk_frozen BK825.out 2; have hfz15_3 := blk_frozen BK825.out 3; have hcz16_0 : w13.cell? ⟨gb826, 0, none⟩ = some (.int .i64 a1_0) := (blk_cell BK826.out 0).trans rfl; have hcz16_1 : w13.cell? ⟨gb826, 1, none⟩ = some (.int .i64 a1_1) := (blk_cell BK826.out 1).trans rfl; have hcz16_2 : w13.cell? ⟨gb826, 2, none⟩ = some (.int .i64 a1_2) := (blk_cell BK826.out 2).trans rfl; have hcz16_3 : w13.cell? ⟨gb826, 3, none⟩ = some (.int .i64 a1_3) := (blk_cell BK826.out 3).trans rfl; have hfz16_0 := blk_frozen BK826.out 0; have hfz16_1 := blk_frozen BK826.out 1; have hfz16_2 := blk_frozen BK826.out 2; have hfz16_3 := blk_frozen BK826.out 3))
          go_ret
          exact ⟨by first | rfl | (simp [errW_none, errW_some] <;> rfl) | (simp [*, errW_none, errW_some] <;> rfl), by repeat (first | (with_reducible first | exact HB.out | apply below_alloc | apply pw_below_drewN | apply below_drew1 | refine below_set ?_ GE825.out | refine below_set ?_ GE826.out) | exact HB.out)⟩
      · rw [if_neg c5] at H
        have c5b0 : (a0_2 == a1_2) = false := beq_eq_false_iff_ne.mpr c5
        have c5b1 : (a0_2 != a1_2) = true := bne_iff_ne.mpr c5
        obtain rfl := Option.some.inj H
        go_enter Try.func54, Try.ntmps54
        go_wp2_with (first | ((with_reducible refine gate_dst (N := 2) rfl ?_); refine box_event ?hg (N := 2) ?hd (cs := #[.int .i64 a0_0, .int .i64 a0_1, .int .i64 a0_2, .int .i64 a0_3]) (t := 81) ?hr ?_; (case hd => rfl); (case hg => rfl); (case hr => first | (go_simp; done) | (go_simp; rfl)); intro gb825 hg w17 hbox hb; have n0_ := Aside0.mk (below_step (by repeat (first | (with_reducible first | exact HB.out | apply below_alloc | apply pw_below_drewN | apply below_drew1) | exact HB.out)) hb); have n1_ := Aside0.mk (hbox); have n2_ := Aside0.mk ((by rw [hg]; exact (below_size (by repeat (first | (with_reducible first | exact HB.out | apply below_alloc | apply pw_below_drewN | apply below_drew1) | exact HB.out))) : w.heap.size ≤ gb825)); have n3_ := Aside0.mk ((by rw [hg]; exact (below_size (by repeat (first | (with_reducible first | exact HB.out | apply below_alloc | apply pw_below_drewN | apply below_drew1) | exact HB.out))) : w.heap.size ≤ gb825)); clear HB; have HB := n0_; have BK825 := n1_; have GW825 := n2_; have GE825 := n3_; clear n0_ n1_ n2_ n3_; clear hb hbox hg) | ((with_reducible refine gate_dst (N := 3) rfl ?_); refine box_event ?hg (N := 3) ?hd (cs := #[.int .i64 a1_0, .int .i64 a1_1, .int .i64 a1_2, .int .i64 a1_3]) (t := 81) ?hr ?_; (case hd => rfl); (case hg => rfl); (case hr => first | (go_simp; done) | (go_simp; rfl)); intro gb826 hg w18 hbox hb; have n0_ := Aside0.mk (blk_below (g := gb825) (o := .cells #[.int .i64 a0_0, .int .i64 a0_1, .int .i64 a0_2, .int .i64 a0_3] 81 (0, 0)) (by (with_reducible repeat (first | refine blk_drewN ?_ _ | refine blk_drew ?_ | refine blk_alloc ?_ _)); exact BK825.out) hb); have n1_ := Aside0.mk (below_step (by repeat (first | (with_reducible first | exact HB.out | apply below_alloc | apply pw_below_drewN | apply below_drew1 | refine below_set ?_ GE825.out) | exact HB.out)) hb); have n2_ := Aside0.mk (hbox); have n3_ := Aside0.mk ((by rw [hg]; exact (below_size (by repeat (first | (with_reducible first | exact HB.out | apply below_alloc | apply pw_below_drewN | apply below_drew1 | refine below_set ?_ GE825.out) | exact HB.out))) : w.heap.size ≤ gb826)); have n4_ := Aside0.mk ((by rw [hg]; exact (below_size (by repeat (first | (with_reducible first | exact HB.out | apply below_alloc | apply pw_below_drewN | apply below_drew1 | refine below_set ?_ GE825.out) | exact HB.out))) : w.heap.size ≤ gb826)); have n5_ := Aside0.mk ((by rw [hg]; exact Nat.ne_of_lt (blk_lt (g := gb825) (o := .cells #[.int .i64 a0_0, .int .i64 a0_1, .int .i64 a0_2, .int .i64 a0_3] 81 (0, 0)) (by (with_reducible repeat (first | refine blk_drewN ?_ _ | refine blk_drew ?_ | refine blk_alloc ?_ _)); exact BK825.out)) : gb825 ≠ gb826)); have n6_ := Aside0.mk ((by rw [hg]; exact Nat.ne_of_gt (blk_lt (g := gb825) (o := .cells #[.int .i64 a0_0, .int .i64 a0_1, .int .i64 a0_2, .int .i64 a0_3] 81 (0, 0)) (by (with_reducible repeat (first | refine blk_drewN ?_ _ | refine blk_drew ?_ | refine blk_alloc ?_ _)); exact BK825.out)) : gb826 ≠ gb825)); clear BK825; clear HB; have BK825 := n0_; have HB := n1_; have BK826 := n2_; have GW826 := n3_; have GE826 := n4_; have NB825_826 := n5_; have NB826_825 := n6_; clear n0_ n1_ n2_ n3_ n4_ n5_ n6_; clear hb hbox hg; have hnb19 := NB825_826.out; have hnc19 := NB826_825.out; have hcz20_0 : w18.cell? ⟨gb825, 0, none⟩ = some (.int .i64 a0_0) := (blk_cell BK825.out 0).trans rfl; have hcz20_1 : w18.cell? ⟨gb825, 1, none⟩ = some (.int .i64 a0_1) := (blk_cell BK825.out 1).trans rfl; have hcz20_2 : w18.cell? ⟨gb825, 2, none⟩ = some (.int .i64 a0_2) := (blk_cell BK825.out 2).trans rfl; have hcz20_3 : w18.cell? ⟨gb825, 3, none⟩ = some (.int .i64 a0_3) := (blk_cell BK825.out 3).trans rfl; have hfz20_0 := blk_frozen BK825.out 0; have hfz20_1 := blk_frozen BK825.out 1; have hfz20_2 := blk_frozen BK825.out 2; have hfz20_3 := blk_frozen BK825.out 3; have hcz21_0 : w18.cell? ⟨gb826, 0, none⟩ = some (.int .i64 a1_0) := (blk_cell BK826.out 0).trans rfl; have hcz21_1 : w18.cell? ⟨gb826, 1, none⟩ = some (.int .i64 a1_1) := (blk_cell BK826.out 1).trans rfl; have hcz21_2 : w18.cell? ⟨gb826, 2, none⟩ = some (.int .i64 a1_2) := (blk_cell BK826.out 2).trans rfl; have hcz21_3 : w18.cell? ⟨gb826, 3, none⟩ = some (.int .i64 a1_3) := (blk_cell BK826.out 3).trans rfl; have hfz21_0 := blk_frozen BK826.out 0; have hfz21_1 := blk_frozen BK826.out 1; have hfz21_2 := blk_frozen BK826.out 2; have hfz21_3 := blk_frozen BK826.out 3))
        go_ret
        exact ⟨by first | rfl | (simp [errW_none, errW_some] <;> rfl) | (simp [*, errW_none, errW_some] <;> rfl), by repeat (first | (with_reducible first | exact HB.out | apply below_alloc | apply pw_below_drewN | apply below_drew1 | refine below_set ?_ GE825.out | refine below_set ?_ GE826.out) | exact HB.out)⟩
    · rw [if_neg c4] at H
      have c4b0 : (a0_1 == a1_1) = false := beq_eq_false_iff_ne.mpr c4
      have c4b1 : (a0_1 != a1_1) = true := bne_iff_ne.mpr c4
      obtain rfl := Option.some.inj H
      go_enter Try.func54, Try.ntmps54
      go_wp2_with (first | ((with_reducible refine gate_dst (N := 2) rfl ?_); refine box_event ?hg (N := 2) ?hd (cs := #[.int .i64 a0_0, .int .i64 a0_1, .int .i64 a0_2, .int .i64 a0_3]) (t := 81) ?hr ?_; (case hd => rfl); (case hg => rfl); (case hr => first | (go_simp; done) | (go_simp; rfl)); intro gb825 hg w22 hbox hb; have n0_ := Aside0.mk (below_step (by repeat (first | (with_reducible first | exact HB.out | apply below_alloc | apply pw_below_drewN | apply below_drew1) | exact HB.out)) hb); have n1_ := Aside0.mk (hbox); have n2_ := Aside0.mk ((by rw [hg]; exact (below_size (by repeat (first | (with_reducible first | exact HB.out | apply below_alloc | apply pw_below_drewN | apply below_drew1) | exact HB.out))) : w.heap.size ≤ gb825)); have n3_ := Aside0.mk ((by rw [hg]; exact (below_size (by repeat (first | (with_reducible first | exact HB.out | apply below_alloc | apply pw_below_drewN | apply below_drew1) | exact HB.out))) : w.heap.size ≤ gb825)); clear HB; have HB := n0_; have BK825 := n1_; have GW825 := n2_; have GE825 := n3_; clear n0_ n1_ n2_ n3_; clear hb hbox hg) | ((with_reducible refine gate_dst (N := 3) rfl ?_); refine box_event ?hg (N := 3) ?hd (cs := #[.int .i64 a1_0, .int .i64 a1_1, .int .i64 a1_2, .int .i64 a1_3]) (t := 81) ?hr ?_; (case hd => rfl); (case hg => rfl); (case hr => first | (go_simp; done) | (go_simp; rfl)); intro gb826 hg w23 hbox hb; have n0_ := Aside0.mk (blk_below (g := gb825) (o := .cells #[.int .i64 a0_0, .int .i64 a0_1, .int .i64 a0_2, .int .i64 a0_3] 81 (0, 0)) (by (with_reducible repeat (first | refine blk_drewN ?_ _ | refine blk_drew ?_ | refine blk_alloc ?_ _)); exact BK825.out) hb); have n1_ := Aside0.mk (below_step (by repeat (first | (with_reducible first | exact HB.out | apply below_alloc | apply pw_below_drewN | apply below_drew1 | refine below_set ?_ GE825.out) | exact HB.out)) hb); have n2_ := Aside0.mk (hbox); have n3_ := Aside0.mk ((by rw [hg]; exact (below_size (by repeat (first | (with_reducible first | exact HB.out | apply below_alloc | apply pw_below_drewN | apply below_drew1 | refine below_set ?_ GE825.out) | exact HB.out))) : w.heap.size ≤ gb826)); have n4_ := Aside0.mk ((by rw [hg]; exact (below_size (by repeat (first | (with_reducible first | exact HB.out | apply below_alloc | apply pw_below_drewN | apply below_drew1 | refine below_set ?_ GE825.out) | exact HB.out))) : w.heap.size ≤ gb826)); have n5_ := Aside0.mk ((by rw [hg]; exact Nat.ne_of_lt (blk_lt (g := gb825) (o := .cells #[.int .i64 a0_0, .int .i64 a0_1, .int .i64 a0_2, .int .i64 a0_3] 81 (0, 0)) (by (with_reducible repeat (first | refine blk_drewN ?_ _ | refine blk_drew ?_ | refine blk_alloc ?_ _)); exact BK825.out)) : gb825 ≠ gb826)); have n6_ := Aside0.mk ((by rw [hg]; exact Nat.ne_of_gt (blk_lt (g := gb825) (o := .cells #[.int .i64 a0_0, .int .i64 a0_1, .int .i64 a0_2, .int .i64 a0_3] 81 (0, 0)) (by (with_reducible repeat (first | refine blk_drewN ?_ _ | refine blk_drew ?_ | refine blk_alloc ?_ _)); exact BK825.out)) : gb826 ≠ gb825)); clear BK825; clear HB; have BK825 := n0_; have HB := n1_; have BK826 := n2_; have GW826 := n3_; have GE826 := n4_; have NB825_826 := n5_; have NB826_825 := n6_; clear n0_ n1_ n2_ n3_ n4_ n5_ n6_; clear hb hbox hg; have hnb24 := NB825_826.out; have hnc24 := NB826_825.out; have hcz25_0 : w23.cell? ⟨gb825, 0, none⟩ = some (.int .i64 a0_0) := (blk_cell BK825.out 0).trans rfl; have hcz25_1 : w23.cell? ⟨gb825, 1, none⟩ = some (.int .i64 a0_1) := (blk_cell BK825.out 1).trans rfl; have hcz25_2 : w23.cell? ⟨gb825, 2, none⟩ = some (.int .i64 a0_2) := (blk_cell BK825.out 2).trans rfl; have hcz25_3 : w23.cell? ⟨gb825, 3, none⟩ = some (.int .i64 a0_3) := (blk_cell BK825.out 3).trans rfl; have hfz25_0 := blk_frozen BK825.out 0; have hfz25_1 := blk_frozen BK825.out 1; have hfz25_2 := blk_frozen BK825.out 2; have hfz25_3 := blk_frozen BK825.out 3; have hcz26_0 : w23.cell? ⟨gb826, 0, none⟩ = some (.int .i64 a1_0) := (blk_cell BK826.out 0).trans rfl; have hcz26_1 : w23.cell? ⟨gb826, 1, none⟩ = some (.int .i64 a1_1) := (blk_cell BK826.out 1).trans rfl; have hcz26_2 : w23.cell? ⟨gb826, 2, none⟩ = some (.int .i64 a1_2) := (blk_cell BK826.out 2).trans rfl; have hcz26_3 : w23.cell? ⟨gb826, 3, none⟩ = some (.int .i64 a1_3) := (blk_cell BK826.out 3).trans rfl; have hfz26_0 := blk_frozen BK826.out 0; have hfz26_1 := blk_frozen BK826.out 1; have hfz26_2 := blk_frozen BK826.out 2; have hfz26_3 := blk_frozen BK826.out 3))
      go_ret
      exact ⟨by first | rfl | (simp [errW_none, errW_some] <;> rfl) | (simp [*, errW_none, errW_some] <;> rfl), by repeat (first | (with_reducible first | exact HB.out | apply below_alloc | apply pw_below_drewN | apply below_drew1 | refine below_set ?_ GE825.out | refine below_set ?_ GE826.out) | exact HB.out)⟩
  · rw [if_neg c3] at H
    have c3b0 : (a0_0 == a1_0) = false := beq_eq_false_iff_ne.mpr c3
    have c3b1 : (a0_0 != a1_0) = true := bne_iff_ne.mpr c3
    obtain rfl := Option.some.inj H
    go_enter Try.func54, Try.ntmps54
    go_wp2_with (first | ((with_reducible refine gate_dst (N := 2) rfl ?_); refine box_event ?hg (N := 2) ?hd (cs := #[.int .i64 a0_0, .int .i64 a0_1, .int .i64 a0_2, .int .i64 a0_3]) (t := 81) ?hr ?_; (case hd => rfl); (case hg => rfl); (case hr => first | (go_simp; done) | (go_simp; rfl)); intro gb825 hg w27 hbox hb; have n0_ := Aside0.mk (below_step (by repeat (first | (with_reducible first | exact HB.out | apply below_alloc | apply pw_below_drewN | apply below_drew1) | exact HB.out)) hb); have n1_ := Aside0.mk (hbox); have n2_ := Aside0.mk ((by rw [hg]; exact (below_size (by repeat (first | (with_reducible first | exact HB.out | apply below_alloc | apply pw_below_drewN | apply below_drew1) | exact HB.out))) : w.heap.size ≤ gb825)); have n3_ := Aside0.mk ((by rw [hg]; exact (below_size (by repeat (first | (with_reducible first | exact HB.out | apply below_alloc | apply pw_below_drewN | apply below_drew1) | exact HB.out))) : w.heap.size ≤ gb825)); clear HB; have HB := n0_; have BK825 := n1_; have GW825 := n2_; have GE825 := n3_; clear n0_ n1_ n2_ n3_; clear hb hbox hg) | ((with_reducible refine gate_dst (N := 3) rfl ?_); refine box_event ?hg (N := 3) ?hd (cs := #[.int .i64 a1_0, .int .i64 a1_1, .int .i64 a1_2, .int .i64 a1_3]) (t := 81) ?hr ?_; (case hd => rfl); (case hg => rfl); (case hr => first | (go_simp; done) | (go_simp; rfl)); intro gb826 hg w28 hbox hb; have n0_ := Aside0.mk (blk_below (g := gb825) (o := .cells #[.int .i64 a0_0, .int .i64 a0_1, .int .i64 a0_2, .int .i64 a0_3] 81 (0, 0)) (by (with_reducible repeat (first | refine blk_drewN ?_ _ | refine blk_drew ?_ | refine blk_alloc ?_ _)); exact BK825.out) hb); have n1_ := Aside0.mk (below_step (by repeat (first | (with_reducible first | exact HB.out | apply below_alloc | apply pw_below_drewN | apply below_drew1 | refine below_set ?_ GE825.out) | exact HB.out)) hb); have n2_ := Aside0.mk (hbox); have n3_ := Aside0.mk ((by rw [hg]; exact (below_size (by repeat (first | (with_reducible first | exact HB.out | apply below_alloc | apply pw_below_drewN | apply below_drew1 | refine below_set ?_ GE825.out) | exact HB.out))) : w.heap.size ≤ gb826)); have n4_ := Aside0.mk ((by rw [hg]; exact (below_size (by repeat (first | (with_reducible first | exact HB.out | apply below_alloc | apply pw_below_drewN | apply below_drew1 | refine below_set ?_ GE825.out) | exact HB.out))) : w.heap.size ≤ gb826)); have n5_ := Aside0.mk ((by rw [hg]; exact Nat.ne_of_lt (blk_lt (g := gb825) (o := .cells #[.int .i64 a0_0, .int .i64 a0_1, .int .i64 a0_2, .int .i64 a0_3] 81 (0, 0)) (by (with_reducible repeat (first | refine blk_drewN ?_ _ | refine blk_drew ?_ | refine blk_alloc ?_ _)); exact BK825.out)) : gb825 ≠ gb826)); have n6_ := Aside0.mk ((by rw [hg]; exact Nat.ne_of_gt (blk_lt (g := gb825) (o := .cells #[.int .i64 a0_0, .int .i64 a0_1, .int .i64 a0_2, .int .i64 a0_3] 81 (0, 0)) (by (with_reducible repeat (first | refine blk_drewN ?_ _ | refine blk_drew ?_ | refine blk_alloc ?_ _)); exact BK825.out)) : gb826 ≠ gb825)); clear BK825; clear HB; have BK825 := n0_; have HB := n1_; have BK826 := n2_; have GW826 := n3_; have GE826 := n4_; have NB825_826 := n5_; have NB826_825 := n6_; clear n0_ n1_ n2_ n3_ n4_ n5_ n6_; clear hb hbox hg; have hnb29 := NB825_826.out; have hnc29 := NB826_825.out; have hcz30_0 : w28.cell? ⟨gb825, 0, none⟩ = some (.int .i64 a0_0) := (blk_cell BK825.out 0).trans rfl; have hcz30_1 : w28.cell? ⟨gb825, 1, none⟩ = some (.int .i64 a0_1) := (blk_cell BK825.out 1).trans rfl; have hcz30_2 : w28.cell? ⟨gb825, 2, none⟩ = some (.int .i64 a0_2) := (blk_cell BK825.out 2).trans rfl; have hcz30_3 : w28.cell? ⟨gb825, 3, none⟩ = some (.int .i64 a0_3) := (blk_cell BK825.out 3).trans rfl; have hfz30_0 := blk_frozen BK825.out 0; have hfz30_1 := blk_frozen BK825.out 1; have hfz30_2 := blk_frozen BK825.out 2; have hfz30_3 := blk_frozen BK825.out 3; have hcz31_0 : w28.cell? ⟨gb826, 0, none⟩ = some (.int .i64 a1_0) := (blk_cell BK826.out 0).trans rfl; have hcz31_1 : w28.cell? ⟨gb826, 1, none⟩ = some (.int .i64 a1_1) := (blk_cell BK826.out 1).trans rfl; have hcz31_2 : w28.cell? ⟨gb826, 2, none⟩ = some (.int .i64 a1_2) := (blk_cell BK826.out 2).trans rfl; have hcz31_3 : w28.cell? ⟨gb826, 3, none⟩ = some (.int .i64 a1_3) := (blk_cell BK826.out 3).trans rfl; have hfz31_0 := blk_frozen BK826.out 0; have hfz31_1 := blk_frozen BK826.out 1; have hfz31_2 := blk_frozen BK826.out 2; have hfz31_3 := blk_frozen BK826.out 3))
    go_ret
    exact ⟨by first | rfl | (simp [errW_none, errW_some] <;> rfl) | (simp [*, errW_none, errW_some] <;> rfl), by repeat (first | (with_reducible first | exact HB.out | apply below_alloc | apply pw_below_drewN | apply below_drew1 | refine below_set ?_ GE825.out | refine below_set ?_ GE826.out) | exact HB.out)⟩

end Go.Proofs.Ytlopmffdebhpfaa.G

/-! ## Law11 -/
namespace Go.Proofs.Ytlopmffdebhpfaa.G
open Go.RowKit Go.Proofs.YtlopmffdebhpfaaW.PrintWords Go.Proofs.YtlopmffdebhpfaaW.PrintLast Go.Proofs.YtlopmffdebhpfaaW.PrintMore
set_option linter.unusedVariables false
set_option linter.unusedSimpArgs false

set_option maxHeartbeats 4000000 in
set_option maxRecDepth 100000 in
theorem laws_FnExactBestSuper.small (k : Nat) (A0 : Option Addr) (c0 : Nat) (l0 : List (List Int)) (A1 : Option Addr) (c1 : Nat) (l1 : List S184) (s : Int) (w : World) (hr0 : Kd.C (Kd.slice 5 (Kd.int .u8)) w A0 l0.length l0) (hc0 : l0.length ≤ c0) (hr1 : Kd.C k184 w A1 l1.length l1) (hc1 : l1.length ≤ c1) (hsz : laws_szDisk.f k l0 l1 1048576 = some s) (hs : s < 0) :
    Calls Try.prog 11 #[.agg #[.slice A0 l0.length c0, .slice A1 l1.length c1]] w fun e w' => e = .returned (.bool true) ∧ Below w.heap.size w w' := by
  have hu39 := Try.underlying39
  have HR0 := Aside0.mk hr0
  have HR1 := Aside0.mk hr1
  have HC0 := Aside0.mk hc0
  have HC1 := Aside0.mk hc1
  have N0 := Aside0.mk hsz
  clear hr0 hr1 hc0 hc1 hsz
  go_enter Try.func11, Try.ntmps11
  go_wp2_with (first | ((with_reducible refine gate_dst (N := 1) rfl ?_); refine box_event ?hg (N := 1) ?hd (cs := #[.slice A0 l0.length c0, .slice A1 l1.length c1]) (t := 39) ?hr ?_; (case hd => rfl); (case hg => rfl); (case hr => first | (go_simp; done) | (go_simp; rfl)); intro gp hgr w1 hbox hbel; have BP := Aside0.mk hbox; have HB := Aside0.mk hbel; have hp0 : w1.cell? ⟨gp, 0, none⟩ = some (.slice A0 l0.length c0) := (blk_cell BP.out 0).trans rfl; have hp1 : w1.cell? ⟨gp, 1, none⟩ = some (.slice A1 l1.length c1) := (blk_cell BP.out 1).trans rfl; clear hbox hbel hgr))
  refine (laws_szDisk.calls k A0 c0 l0 A1 c1 l1 1048576 s _ (Kd.C_below HR0.out HB.out) HC0.out (Kd.C_below HR1.out HB.out) HC1.out N0.out).mono ?_
  rintro e w2 ⟨rfl, hb⟩
  have HB2 := Aside0.mk (below_step HB.out hb)
  have d1 : decide (s < 0) = true := decide_eq_true hs
  go_wp2_with fail
  go_ret
  exact ⟨rfl, HB2.out⟩

def laws_FnExactBestSuper.T10 : Bool × List (List Nat × List Nat) := (true, [([], []), ([], []), ([1], [1]), ([0, 2, 2], [0, 2]), ([3], [3])])
def laws_FnExactBestSuper.B10 : List Nat := [0, 0, 2, 7, 15]
theorem laws_FnExactBestSuper.tab10 : rtab .any (opsOf Try.f11 10) = laws_FnExactBestSuper.T10 := by kernel_rfl
theorem laws_FnExactBestSuper.bits10 : waitsOk laws_FnExactBestSuper.T10.2 laws_FnExactBestSuper.B10 = true := by kernel_rfl
set_option maxHeartbeats 8000000 in
set_option maxRecDepth 100000 in
theorem laws_FnExactBestSuper.full (k k2 k3 k4 k6 : Nat) (A0 : Option Addr) (c0 : Nat) (l0 : List (List Int)) (A1 : Option Addr) (c1 : Nat) (l1 : List S184) (s : Int) (d0 : List (List Int)) (d1 : List S185) (r0 r1 r2 r3 : Int) (rb : Bool) (w : World) (hr0 : Kd.C (Kd.slice 5 (Kd.int .u8)) w A0 l0.length l0) (hc0 : l0.length ≤ c0) (hr1 : Kd.C k184 w A1 l1.length l1) (hc1 : l1.length ≤ c1)
    (hsz : laws_szDisk.f k l0 l1 1048576 = some s) (hs : ¬ s < 0) (hto : laws_toDisk.f k2 l0 l1 = some (d0, d1)) (hsp : spec_BestSuper.f k3 d0 d1 = some ((r0, r1, r2, r3), rb)) (him : impl_BestSuper.f k4 d0 d1 = some ((r0, r1, r2, r3), rb))
    (hed : laws_eqDisk.f k6 d0 d1 d0 d1 = some true) (hes : laws_eqSuper.f r0 r1 r2 r3 r0 r1 r2 r3 = some true) (hwf : ∀ p ∈ d1, (Lit.int .i64 p.f0).wf = true) :
    Calls Try.prog 11 #[.agg #[.slice A0 l0.length c0, .slice A1 l1.length c1]] w fun e w' => e = .returned (.bool true) ∧ Below w.heap.size w w' := by
  have hu39 := Try.underlying39
  have hu44 := Try.underlying44
  have hu81 := Try.underlying81
  have HR0 := Aside0.mk hr0
  have HR1 := Aside0.mk hr1
  have HC0 := Aside0.mk hc0
  have HC1 := Aside0.mk hc1
  have N0 := Aside0.mk hsz
  have N1 := Aside0.mk hto
  have N2 := Aside0.mk hsp
  have N3 := Aside0.mk him
  have N5 := Aside0.mk hed
  have NE := Aside0.mk hes
  have NW := Aside0.mk hwf
  have e1 : decide (s < 0) = false := decide_eq_false hs
  have e5 : (rb != rb) = false := by simp
  clear hr0 hr1 hc0 hc1 hsz hto hsp him hed hes hwf hs
  go_enter Try.func11, Try.ntmps11
  go_wp2_with (first | ((with_reducible refine gate_dst (N := 1) rfl ?_); refine box_event ?hg (N := 1) ?hd (cs := #[.slice A0 l0.length c0, .slice A1 l1.length c1]) (t := 39) ?hr ?_; (case hd => rfl); (case hg => rfl); (case hr => first | (go_simp; done) | (go_simp; rfl)); intro gp hgr w1 hbox hbel; have BP := Aside0.mk hbox; have HB := Aside0.mk hbel; have hp0 : w1.cell? ⟨gp, 0, none⟩ = some (.slice A0 l0.length c0) := (blk_cell BP.out 0).trans rfl; have hp1 : w1.cell? ⟨gp, 1, none⟩ = some (.slice A1 l1.length c1) := (blk_cell BP.out 1).trans rfl; clear hbox hbel hgr))
  refine (laws_szDisk.calls k A0 c0 l0 A1 c1 l1 1048576 s _ (Kd.C_below HR0.out HB.out) HC0.out (Kd.C_below HR1.out HB.out) HC1.out N0.out).mono ?_
  rintro e w2 ⟨rfl, hb⟩
  clear hp0 hp1
  have BP := Aside0.mk (blk_below BP.out hb)
  have HB := Aside0.mk (below_step HB.out hb)
  clear hb
  have hp0 : w2.cell? ⟨gp, 0, none⟩ = some (.slice A0 l0.length c0) := (blk_cell BP.out 0).trans rfl
  have hp1 : w2.cell? ⟨gp, 1, none⟩ = some (.slice A1 l1.length c1) := (blk_cell BP.out 1).trans rfl
  go_wp2_with fail
  refine (laws_toDisk.apart k2 A0 c0 l0 A1 c1 l1 d0 d1 _ (Kd.C_below HR0.out HB.out) HC0.out (Kd.C_below HR1.out HB.out) HC1.out N1.out).mono ?_
  rintro e w3 ⟨v0, v1, P1, Q1, rfl, hd, hb⟩
  clear hp0 hp1
  obtain ⟨Y0, yc0, rfl⟩ := Kd.S_slice hd.2.1
  obtain ⟨Y1, yc1, rfl⟩ := Kd.S_slice hd.2.2
  have HY := Aside0.mk hd
  clear hd
  have BP := Aside0.mk (blk_below BP.out hb)
  have HB := Aside0.mk (below_step HB.out hb)
  clear hb
  go_wp2_with fail
  refine (spec_BestSuper.calls k3 Y0 yc0 d0 Y1 yc1 d1 r0 r1 r2 r3 rb _ (Kd.S_reads' HY.out.2.1).2.2 (Kd.S_reads' HY.out.2.1).2.1 (Kd.S_reads' HY.out.2.2).2.2 (Kd.S_reads' HY.out.2.2).2.1 N2.out).mono ?_
  rintro e w4 ⟨rfl, hb⟩
  clear HY
  have BP := Aside0.mk (blk_below BP.out hb)
  have HB := Aside0.mk (below_step HB.out hb)
  clear hb
  go_wp2_with (first | ((with_reducible refine gate_dst (N := 4) rfl ?_); refine box_event ?hg (N := 4) ?hd (cs := #[.int .i64 0, .int .i64 0, .int .i64 0, .int .i64 0]) (t := 81) ?hr ?_; (case hd => rfl); (case hg => rfl); (case hr => first | (go_simp; done) | (go_simp; rfl)); intro g4 hgr w4b hbox hbel; have B4z := Aside0.mk hbox; have G4w : Aside0 (w.heap.size ≤ g4) := ⟨by rw [hgr]; exact HB.out.size⟩; have Ngp4 : Aside0 (gp ≠ g4) := ⟨by have := blk_lt BP.out; omega⟩; have BP := Aside0.mk (blk_below BP.out hbel); have HB := Aside0.mk (below_step HB.out hbel); clear hbox hbel hgr) | ((with_reducible refine gate_ (.store 81 (.tmp 4) (.tmp 18)) rfl ?_); refine store_blk rfl rfl 81 (.tmp 4) (.tmp 18) rfl (off := 0) (u := .agg #[.int .i64 r0, .int .i64 r1, .int .i64 r2, .int .i64 r3]) #[.int .i64 r0, .int .i64 r1, .int .i64 r2, .int .i64 r3] rfl rfl B4z.out [.int .i64 r0, .int .i64 r1, .int .i64 r2, .int .i64 r3] rfl (by kernel_rfl) (Nat.le_of_ble_eq_true rfl) rfl rfl ?_; intro w5 hblk hgrw; have B4 := Aside0.mk hblk; have BP := Aside0.mk (blk_grown BP.out hgrw (fun e => Ngp4.out (Option.some.inj e))); have HB := Aside0.mk (HB.out.grown hgrw HB.out.size (by intro q hq; cases hq; exact G4w.out)); have hp0 : w5.cell? ⟨gp, 0, none⟩ = some (.slice A0 l0.length c0) := (blk_cell BP.out 0).trans rfl; have hp1 : w5.cell? ⟨gp, 1, none⟩ = some (.slice A1 l1.length c1) := (blk_cell BP.out 1).trans rfl; clear hblk hgrw))
  refine (laws_toDisk.apart k2 A0 c0 l0 A1 c1 l1 d0 d1 _ (Kd.C_below HR0.out HB.out) HC0.out (Kd.C_below HR1.out HB.out) HC1.out N1.out).mono ?_
  rintro e w6 ⟨v0, v1, P2, Q2, rfl, hd, hb⟩
  clear hp0 hp1
  obtain ⟨X0, xc0, rfl⟩ := Kd.S_slice hd.2.1
  obtain ⟨X1, xc1, rfl⟩ := Kd.S_slice hd.2.2
  have hd9 := IsDisk_between hd (Nat.le_refl _)
  obtain ⟨P3, Q3, hPQ, hd3⟩ := hd9
  have HX := Aside0.mk hd3
  have HPQ := Aside0.mk hPQ
  clear hd hd3 hPQ
  have BP := Aside0.mk (blk_below BP.out hb)
  have B4 := Aside0.mk (blk_below B4.out hb)
  have HB := Aside0.mk (below_step HB.out hb)
  clear hb
  go_wp2_with (first | ((with_reducible refine gate_dst (N := 6) rfl ?_); refine box_event ?hg (N := 6) ?hd (cs := #[.slice none 0 0, .slice none 0 0]) (t := 44) ?hr ?_; (case hd => rfl); (case hg => rfl); (case hr => first | (go_simp; done) | (go_simp; rfl)); intro g6 hgr w6b hbox hbel; have B6z := Aside0.mk hbox; have G6w : Aside0 (w.heap.size ≤ g6) := ⟨by rw [hgr]; exact HB.out.size⟩; have Ngp6 : Aside0 (gp ≠ g6) := ⟨by have := blk_lt BP.out; omega⟩; have BP := Aside0.mk (blk_below BP.out hbel); have Ng46 : Aside0 (g4 ≠ g6) := ⟨by have := blk_lt B4.out; omega⟩; have B4 := Aside0.mk (blk_below B4.out hbel); have HB := Aside0.mk (below_step HB.out hbel); have HSZ6 : Aside0 (w6.heap.size ≤ w6b.heap.size) := ⟨hbel.size⟩; have H6 : Aside0 (w6.heap.size ≤ g6) := ⟨Nat.le_of_eq hgr.symm⟩; have HX := Aside0.mk (IsDisk_below HX.out hbel); clear hbox hbel hgr) | ((with_reducible refine gate_ (.store 44 (.tmp 6) (.tmp 21)) rfl ?_); refine store_blk rfl rfl 44 (.tmp 6) (.tmp 21) rfl (off := 0) (u := .agg #[.slice X0 d0.length xc0, .slice X1 d1.length xc1]) #[.slice X0 d0.length xc0, .slice X1 d1.length xc1] rfl rfl B6z.out [.slice X0 d0.length xc0, .slice X1 d1.length xc1] rfl (by kernel_rfl) (Nat.le_of_ble_eq_true rfl) rfl rfl ?_; intro w7 hblk hgrw; have B6 := Aside0.mk hblk; have BP := Aside0.mk (blk_grown BP.out hgrw (fun e => Ngp6.out (Option.some.inj e))); have B4 := Aside0.mk (blk_grown B4.out hgrw (fun e => Ng46.out (Option.some.inj e))); have HB := Aside0.mk (HB.out.grown hgrw HB.out.size (by intro q hq; cases hq; exact G6w.out)); have HX := Aside0.mk (IsDisk_grown HX.out hgrw (fun q hq e => by have := (HPQ.out q hq).2; have := H6.out; omega)); have H67 : Aside0 (w6.heap.size ≤ w7.heap.size) := ⟨Nat.le_trans HSZ6.out hgrw.size⟩; have hx0 : w7.cell? ⟨g6, 0, none⟩ = some (.slice X0 d0.length xc0) := (blk_cell B6.out 0).trans rfl; have hx1 : w7.cell? ⟨g6, 1, none⟩ = some (.slice X1 d1.length xc1) := (blk_cell B6.out 1).trans rfl; clear hblk hgrw))
  refine (impl_BestSuper.calls k4 X0 xc0 d0 X1 xc1 d1 r0 r1 r2 r3 rb _ (Kd.S_reads' HX.out.2.1).2.2 (Kd.S_reads' HX.out.2.1).2.1 (Kd.S_reads' HX.out.2.2).2.2 (Kd.S_reads' HX.out.2.2).2.1 NW.out N3.out).mono ?_
  rintro e w8 ⟨rfl, hb⟩
  have H78 : Aside0 (w7.heap.size ≤ w8.heap.size) := ⟨hb.size⟩
  clear hx0 hx1
  have BP := Aside0.mk (blk_below BP.out hb)
  have B4 := Aside0.mk (blk_below B4.out hb)
  have B6 := Aside0.mk (blk_below B6.out hb)
  have HB := Aside0.mk (below_step HB.out hb)
  have HX := Aside0.mk (IsDisk_below HX.out hb)
  clear hb
  go_wp2_with (first | ((with_reducible refine gate_dst (N := 7) rfl ?_); refine box_event ?hg (N := 7) ?hd (cs := #[.int .i64 0, .int .i64 0, .int .i64 0, .int .i64 0]) (t := 81) ?hr ?_; (case hd => rfl); (case hg => rfl); (case hr => first | (go_simp; done) | (go_simp; rfl)); intro g7 hgr w9 hbox hbel; have B7z := Aside0.mk hbox; have G7w : Aside0 (w.heap.size ≤ g7) := ⟨by rw [hgr]; exact HB.out.size⟩; have Ngp7 : Aside0 (gp ≠ g7) := ⟨by have := blk_lt BP.out; omega⟩; have BP := Aside0.mk (blk_below BP.out hbel); have Ng47 : Aside0 (g4 ≠ g7) := ⟨by have := blk_lt B4.out; omega⟩; have B4 := Aside0.mk (blk_below B4.out hbel); have Ng67 : Aside0 (g6 ≠ g7) := ⟨by have := blk_lt B6.out; omega⟩; have B6 := Aside0.mk (blk_below B6.out hbel); have HB := Aside0.mk (below_step HB.out hbel); have H7 : Aside0 (w6.heap.size ≤ g7) := ⟨by rw [hgr]; exact Nat.le_trans H67.out H78.out⟩; have HX := Aside0.mk (IsDisk_below HX.out hbel); clear hbox hbel hgr) | ((with_reducible refine gate_ (.store 81 (.tmp 7) (.tmp 25)) rfl ?_); refine store_blk rfl rfl 81 (.tmp 7) (.tmp 25) rfl (off := 0) (u := .agg #[.int .i64 r0, .int .i64 r1, .int .i64 r2, .int .i64 r3]) #[.int .i64 r0, .int .i64 r1, .int .i64 r2, .int .i64 r3] rfl rfl B7z.out [.int .i64 r0, .int .i64 r1, .int .i64 r2, .int .i64 r3] rfl (by kernel_rfl) (Nat.le_of_ble_eq_true rfl) rfl rfl ?_; intro w10 hblk hgrw; have B7 := Aside0.mk hblk; have BP := Aside0.mk (blk_grown BP.out hgrw (fun e => Ngp7.out (Option.some.inj e))); have B4 := Aside0.mk (blk_grown B4.out hgrw (fun e => Ng47.out (Option.some.inj e))); have B6 := Aside0.mk (blk_grown B6.out hgrw (fun e => Ng67.out (Option.some.inj e))); have HB := Aside0.mk (HB.out.grown hgrw HB.out.size (by intro q hq; cases hq; exact G7w.out)); have HX := Aside0.mk (IsDisk_grown HX.out hgrw (fun q hq e => by have := (HPQ.out q hq).2; have := H7.out; omega)); have hs0 : w10.cell? ⟨g7, 0, none⟩ = some (.int .i64 r0) := (blk_cell B7.out 0).trans rfl; have ht0 : w10.cell? ⟨g4, 0, none⟩ = some (.int .i64 r0) := (blk_cell B4.out 0).trans rfl; have hs1 : w10.cell? ⟨g7, 1, none⟩ = some (.int .i64 r1) := (blk_cell B7.out 1).trans rfl; have ht1 : w10.cell? ⟨g4, 1, none⟩ = some (.int .i64 r1) := (blk_cell B4.out 1).trans rfl; have hs2 : w10.cell? ⟨g7, 2, none⟩ = some (.int .i64 r2) := (blk_cell B7.out 2).trans rfl; have ht2 : w10.cell? ⟨g4, 2, none⟩ = some (.int .i64 r2) := (blk_cell B4.out 2).trans rfl; have hs3 : w10.cell? ⟨g7, 3, none⟩ = some (.int .i64 r3) := (blk_cell B7.out 3).trans rfl; have ht3 : w10.cell? ⟨g4, 3, none⟩ = some (.int .i64 r3) := (blk_cell B4.out 3).trans rfl; clear hblk hgrw))
  refine (laws_eqSuper.calls r0 r1 r2 r3 r0 r1 r2 r3 true _ NE.out).mono ?_
  rintro e w11 ⟨rfl, hb⟩
  have hb := hb
  have BP := Aside0.mk (blk_below BP.out hb)
  have B6 := Aside0.mk (blk_below B6.out hb)
  have HB := Aside0.mk (below_step HB.out hb)
  have HX := Aside0.mk (IsDisk_below HX.out hb)
  clear hb
  clear hs0 hs1 hs2 hs3 ht0 ht1 ht2 ht3
  go_wp2_with fail
  refine start_ (n := 5) (S := fun w' => w'.heap[gp]? = some (.cells #[.slice A0 l0.length c0, .slice A1 l1.length c1] 39 (0, 0)) ∧ w'.heap[g6]? = some (.cells #[.slice X0 d0.length xc0, .slice X1 d1.length xc1] 44 (0, 0))) (ds := []) #[false, false, false, false, false] (by kernel_rfl) rfl rfl (⟨blk_drew BP.out, blk_drew B6.out⟩) (fun hHeld => ?_); refine with_tabW laws_FnExactBestSuper.tab10 laws_FnExactBestSuper.bits10 (fun HT_ HW_ => ?_)
  have HB := Aside0.mk (below_drew1 HB.out)
  have HX := Aside0.mk (And.intro HX.out.1 (And.intro (Kd.S_drew HX.out.2.1) (Kd.S_drew HX.out.2.2)))
  refine take_ (i := 0) (N := some 36) (v := ?_) (a' := ?_) #[true, false, false, false, false] rfl rfl (take_ofW HT_.out HW_.out (by kernel_rfl)) (fun _ _ _ h => h) (Or.inl ⟨by rfl, ?_⟩) hHeld ?_ ?_
  rotate_left
  · intro w' s0
    have hx0 : w'.cell? ⟨g6, 0, none⟩ = some (.slice X0 d0.length xc0) := (blk_cell s0.2 0).trans rfl
    have hx1 : w'.cell? ⟨g6, 1, none⟩ = some (.slice X1 d1.length xc1) := (blk_cell s0.2 1).trans rfl
    clear s0
    go_simp
    with_reducible rfl
  rotate_left
  · simp only [Act.put, List.setIfInBounds_toArray, List.set_cons_zero, List.set_cons_succ, i64_w, i32_w]
    rfl
  refine take_ (i := 1) (N := some 37) (v := ?_) (a' := ?_) #[true, true, false, false, false] rfl rfl (take_ofW HT_.out HW_.out (by kernel_rfl)) (fun _ _ _ h => h) (Or.inl ⟨by rfl, ?_⟩) hHeld ?_ ?_
  rotate_left
  · intro w' s0
    have hp0 : w'.cell? ⟨gp, 0, none⟩ = some (.slice A0 l0.length c0) := (blk_cell s0.1 0).trans rfl
    have hp1 : w'.cell? ⟨gp, 1, none⟩ = some (.slice A1 l1.length c1) := (blk_cell s0.1 1).trans rfl
    clear s0
    go_simp
    with_reducible rfl
  rotate_left
  · simp only [Act.put, List.setIfInBounds_toArray, List.set_cons_zero, List.set_cons_succ, i64_w, i32_w]
    rfl
  refine one_ (i := 2) (N := some 38) #[true, true, true, false, false] rfl rfl (one_of HT_.out (by kernel_rfl)) (by decide) (fun K hK => ?_)
  refine goes_ Try.func26 (by kernel_rfl) rfl #[.agg #[.slice A0 l0.length c0, .slice A1 l1.length c1]] (by rfl) rfl rfl (by first | rfl | (simp only [List.map_toArray, List.map_cons, List.map_nil]; first | done | rfl)) ?_
  refine (laws_toDisk.apart k2 A0 c0 l0 A1 c1 l1 d0 d1 _ (Kd.C_below HR0.out HB.out) HC0.out (Kd.C_below HR1.out HB.out) HC1.out N1.out).mono ?_
  rintro e w12 ⟨v0, v1, P4, Q4, rfl, hd, hb⟩
  refine ⟨_, rfl, ?_⟩
  have BP := Aside0.mk (blk_below hHeld.1 hb)
  have B6 := Aside0.mk (blk_below hHeld.2 hb)
  have HB := Aside0.mk (below_step HB.out hb)
  have HX := Aside0.mk (And.intro (Kd.S_below HX.out.2.1 hb) (Kd.S_below HX.out.2.2 hb))
  obtain ⟨Z0, zc0, rfl⟩ := Kd.S_slice hd.2.1
  obtain ⟨Z1, zc1, rfl⟩ := Kd.S_slice hd.2.2
  have HZ := Aside0.mk hd
  clear hb hd hHeld
  refine hK.out _ _ (⟨BP.out, B6.out⟩) (fun hHeld => ?_)
  clear hK K
  refine norm_ (a' := ?_) ?_ ?_
  rotate_left
  · show Act.put _ (some 38) _ = _
    simp only [Act.put, List.setIfInBounds_toArray, List.set_cons_zero, List.set_cons_succ, i64_w, i32_w]
    rfl
  refine one_ (i := 3) (N := some 39) #[true, true, true, true, false] rfl rfl (one_of HT_.out (by kernel_rfl)) (by decide) (fun K hK => ?_)
  refine goes_ Try.func28 (by kernel_rfl) rfl #[.agg #[.slice X0 d0.length xc0, .slice X1 d1.length xc1], .agg #[.slice Z0 d0.length zc0, .slice Z1 d1.length zc1]] (by rfl) rfl rfl (by first | rfl | (simp only [List.map_toArray, List.map_cons, List.map_nil]; first | done | rfl)) ?_
  refine (laws_eqDisk.calls k6 X0 xc0 d0 X1 xc1 d1 Z0 zc0 d0 Z1 zc1 d1 true _ (Kd.S_reads' HX.out.1).2.2 (Kd.S_reads' HX.out.1).2.1 (Kd.S_reads' HX.out.2).2.2 (Kd.S_reads' HX.out.2).2.1 (Kd.S_reads' HZ.out.2.1).2.2 (Kd.S_reads' HZ.out.2.1).2.1 (Kd.S_reads' HZ.out.2.2).2.2 (Kd.S_reads' HZ.out.2.2).2.1 N5.out).mono ?_
  rintro e w13 ⟨rfl, hb⟩
  refine ⟨_, rfl, ?_⟩
  have BP := Aside0.mk (blk_below hHeld.1 hb)
  have B6 := Aside0.mk (blk_below hHeld.2 hb)
  have HB := Aside0.mk (below_step HB.out hb)
  clear hb hHeld HZ
  refine hK.out _ _ (⟨BP.out, B6.out⟩) (fun hHeld => ?_)
  clear hK K
  refine norm_ (a' := ?_) ?_ ?_
  rotate_left
  · show Act.put _ (some 39) _ = _
    simp only [Act.put, List.setIfInBounds_toArray, List.set_cons_zero, List.set_cons_succ, i64_w, i32_w]
    rfl
  refine pure_ (i := 4) (N := some 40) (v := ?_) (a' := ?_) #[true, true, true, true, true] rfl rfl (any_of HT_.out (by kernel_rfl)) (fun _ _ _ h => h) (Or.inl ⟨by rfl, ?_⟩) ?_ ?_
  rotate_left
  · intro w'
    go_simp
    with_reducible rfl
  rotate_left
  · simp only [Act.put, List.setIfInBounds_toArray, List.set_cons_zero, List.set_cons_succ, i64_w, i32_w]
    rfl
  refine done_ (done_of HT_.out (by kernel_rfl)) ?_
  try clear hHeld
  go_wp2_with fail
  go_ret
  exact ⟨rfl, HB.out⟩
end Go.Proofs.Ytlopmffdebhpfaa.G

/-! ## Num -/
namespace Go.Proofs.Ytlopmffdebhpfaa.Pure
open Go.RowKit Go.Proofs.Ytlopmffdebhpfaa.G Go.Proofs.YtlopmffdebhpfaaW.PrintWords Go.Proofs.YtlopmffdebhpfaaW.PrintLast Go.Proofs.YtlopmffdebhpfaaW.PrintMore

def leV : List Int → Int
  | [] => 0
  | b :: r => b + 256 * leV r
theorem leV_snoc : ∀ (l : List Int) (x : Int), leV (l ++ [x]) = leV l + x * 256 ^ l.length
  | [], x => by simp [leV]
  | b :: r, x => by
    simp only [List.cons_append, leV, leV_snoc r x, List.length_cons, Int.pow_succ]
    rw [Int.mul_add, Int.add_assoc, Int.mul_left_comm 256, Int.mul_comm 256 (256 ^ r.length)]
theorem leV_range : ∀ (l : List Int), By l → 0 ≤ leV l ∧ leV l < 256 ^ l.length
  | [], _ => by simp [leV]
  | b :: r, h => by
    have h0 := h b List.mem_cons_self
    have ih := leV_range r (fun x hx => h x (List.mem_cons_of_mem _ hx))
    simp only [leV, List.length_cons, Int.pow_succ]
    omega
theorem pow_le8 {n : Nat} (h : n ≤ 7) : (256 : Int) ^ n ≤ 72057594037927936 := by
  rcases n with _ | _ | _ | _ | _ | _ | _ | _ | n <;> first | decide | omega
theorem low_l0 (k : Nat) (l : List Int) (hb : By l) (hl : l.length ≤ 7) : ∀ (n : Nat), n ≤ l.length → spec_l2Low.l0 (k + n + 1) l (leV (l.drop n)) ((n : Int) - 1) = some (leV l)
  | 0, _ => by
    unfold spec_l2Low.l0
    rw [if_neg (by omega)]
    rfl
  | n + 1, h => by
    have hb' : By (l.drop (n + 1)) := hb.drop _
    have hr := leV_range _ hb'
    have hp := pow_le8 (n := (l.drop (n + 1)).length) (by rw [List.length_drop]; omega)
    have hq : (256 : Int) ^ (l.drop (n + 1)).length * 256 ≤ 72057594037927936 := by
      rw [← Int.pow_succ]; exact pow_le8 (by rw [List.length_drop]; omega)
    have hx := By_rd hb (n : Int)
    have e : l.drop n = rd l (n : Int) :: l.drop (n + 1) := by
      rw [List.drop_eq_getElem_cons (by omega)]
      congr 1
      unfold rd
      rw [Int.toNat_natCast, List.getD_eq_getElem?_getD, List.getElem?_eq_getElem (by omega)]
      rfl
    unfold spec_l2Low.l0
    rw [show ((n + 1 : Nat) : Int) - 1 = (n : Int) by omega, if_pos (by omega), if_pos (by omega), if_pos (by omega)]
    rw [w64 (n := leV (l.drop (n + 1)) * 256) (by omega) (by omega), w64 (n := rd l (n : Int)) (by omega) (by omega), w64 (n := (n : Int) - 1) (by omega) (by omega), w64 (by omega) (by omega)]
    have ih := low_l0 k l hb hl n (by omega)
    rw [e, leV] at ih
    rw [show leV (l.drop (n + 1)) * 256 + rd l (n : Int) = rd l (n : Int) + 256 * leV (l.drop (n + 1)) by omega]
    exact ih
theorem lowV {l : List Int} (hb : By l) (hl : l.length ≤ 7) : Cv (fun k => spec_l2Low.f k l) (leV l) :=
  Cv.from (m := l.length + 1) (fun k => by
    have h := low_l0 k l hb hl l.length (Nat.le_refl _)
    rw [List.drop_length, ← Nat.add_assoc] at *
    unfold spec_l2Low.f
    rw [w64 (by omega) (by omega)]
    exact h)
theorem or_end {a b : Nat} (ha2 : a < 72057594037927936) (hB : b < 18446744073709551616) (hor : a ||| b = a + b) : Go.bits .or .i64 (a : Int) (IntKind.i64.wrap (b : Int)) = wrap64 ((a : Int) + (b : Int)) := by
  have e64 : (((2 ^ 64 : Nat)) : Int) = 18446744073709551616 := by decide
  have ht : (BitVec.ofInt 64 (IntKind.i64.wrap (b : Int))).toNat = b := by
    rw [BitVec.toNat_ofInt, e64, IntKind.wrap_i64]
    omega
  have ha : (BitVec.ofInt 64 (a : Int)).toNat = a := by
    rw [BitVec.toNat_ofInt, e64]
    omega
  have key : Go.bits .or .i64 (a : Int) (IntKind.i64.wrap (b : Int)) = IntKind.i64.wrap (((BitVec.ofInt 64 (a : Int) ||| BitVec.ofInt 64 (IntKind.i64.wrap (b : Int))).toNat : Nat) : Int) := rfl
  rw [key, BitVec.toNat_or, ht, ha, hor, IntKind.wrap_i64]
  unfold wrap64
  omega
theorem or_step {a : Int} {x : Int} {i : Nat} (hi : i ≤ 7) (h0 : 0 ≤ a) (h1 : a < 256 ^ i) (hx : 0 ≤ x ∧ x < 256) : Go.bits .or .i64 a (shl .i64 (wrap64 x) (8 * (i : Int))) = wrap64 (a + x * 256 ^ i) := by
  obtain ⟨a, rfl⟩ := Int.eq_ofNat_of_zero_le h0
  obtain ⟨x, rfl⟩ := Int.eq_ofNat_of_zero_le hx.1
  have hpw : (256 : Nat) ^ i = 2 ^ (8 * i) := by rw [Nat.pow_mul]
  have hcast : ((256 ^ i : Nat) : Int) = (256 : Int) ^ i := Int.natCast_pow 256 i
  have h1 : a < 2 ^ (8 * i) := by rw [← hpw]; rw [← hcast] at h1; exact Int.ofNat_lt.1 h1
  have hx : x < 256 := by omega
  have hpi : 2 ^ (8 * i) ≤ 72057594037927936 := Nat.le_trans (Nat.pow_le_pow_right (n := 2) (j := 56) (by decide) (by omega)) (by decide)
  have e0 : ((x : Int) * 256 ^ i) = ((x * 2 ^ (8 * i) : Nat) : Int) := by rw [← hpw, Int.natCast_mul, hcast]
  have hB : x * 2 ^ (8 * i) < 18446744073709551616 := by
    have := Nat.mul_le_mul (show x ≤ 255 by omega) hpi
    omega
  have e1 : shl .i64 (wrap64 (x : Int)) (8 * (i : Int)) = IntKind.i64.wrap ((x * 2 ^ (8 * i) : Nat) : Int) := by
    unfold shl
    rw [w64 (n := (x : Int)) (by omega) (by omega), show (8 * (i : Int)).toNat = 8 * i by omega, show min (8 * i) IntKind.i64.bits = 8 * i from Nat.min_eq_left (by show 8 * i ≤ 64; omega)]
    rw [show ((2 : Int) ^ (8 * i)) = ((2 ^ (8 * i) : Nat) : Int) from (Int.natCast_pow 2 (8 * i)).symm, Int.natCast_mul]
  rw [e1, e0]
  have hor : a ||| (x * 2 ^ (8 * i)) = a + x * 2 ^ (8 * i) := by
    have h := Nat.two_pow_add_eq_or_of_lt (i := 8 * i) (b := a) h1 x
    rw [Nat.or_comm, Nat.mul_comm x, ← h]
    omega
  generalize x * 2 ^ (8 * i) = b at hB hor
  have ha2 : a < 72057594037927936 := by omega
  clear e1 e0 hpi h1 hcast hpw
  exact or_end ha2 hB hor
theorem num_l0 (k : Nat) (n : Nat) (hn : n ≤ 8) : ∀ (r pre : List Int), By pre → By r → pre.length + r.length = n → impl_numberAt.l0 (k + r.length + 1) (wrap64 (leV pre)) (pre ++ r) (n : Int) (pre.length : Int) = some (wrap64 (leV (pre ++ r)))
  | [], pre, hp, hr, h => by
    unfold impl_numberAt.l0
    rw [List.append_nil, if_neg (by simp at h; omega)]
  | x :: r, pre, hp, hr, h => by
    simp only [List.length_cons] at h
    have hx := hr x List.mem_cons_self
    have hv := leV_range pre hp
    have h8 := pow_le8 (n := pre.length) (by omega)
    rw [show k + (x :: r).length + 1 = (k + r.length + 1) + 1 by simp only [List.length_cons]; omega]
    conv => lhs; unfold impl_numberAt.l0
    rw [if_pos (by omega), if_pos (by omega), if_pos (by simp; omega), w64 (n := 8 * (pre.length : Int)) (by omega) (by omega), if_pos (by omega), rd_mid]
    rw [w64 (n := leV pre) (by omega) (by omega), or_step (by omega) hv.1 hv.2 hx, ← leV_snoc, w64 (n := (pre.length : Int) + 1) (by omega) (by omega)]
    have ih := num_l0 k n hn r (pre ++ [x]) (hp.append (By.cons hx By.nil)) (fun y hy => hr y (List.mem_cons_of_mem _ hy)) (by simp; omega)
    rw [List.append_assoc, List.singleton_append, show (((pre ++ [x]).length : Nat) : Int) = (pre.length : Int) + 1 by simp] at ih
    exact ih
theorem numV {l : List Int} (hb : By l) (hl : l.length ≤ 8) : Cv (fun k => impl_numberAt.f k l) (wrap64 (leV l)) :=
  Cv.from (m := l.length + 1) (fun k => by
    have h := num_l0 k l.length hl l [] By.nil hb (by simp)
    rw [show wrap64 (leV []) = 0 from by unfold wrap64 leV; decide] at h
    rw [← Nat.add_assoc]
    unfold impl_numberAt.f
    exact h)
theorem numV4 {l : List Int} (hb : By l) (hl : l.length ≤ 7) : Cv (fun k => impl_numberAt.f k l) (leV l) := by
  have h := numV hb (by omega)
  have hv := leV_range l hb
  have h8 := pow_le8 hl
  rw [w64 (by omega) (by omega)] at h
  exact h
/-- Eight bytes: the last one nil, then the seven before it tell the number; else no generation that a superblock may have. -/
theorem num8 {l : List Int} (hb : By l) (hl : l.length = 8) : (rd l 7 = 0 → wrap64 (leV l) = leV (l.take 7)) ∧ (rd l 7 ≠ 0 → ¬ (1 ≤ wrap64 (leV l) ∧ wrap64 (leV l) ≤ 1000000000000)) := by
  have e : l = l.take 7 ++ [rd l 7] := by
    conv => lhs; rw [← List.take_append_drop 7 l]
    congr 1
    rw [List.drop_eq_getElem_cons (by omega), List.drop_of_length_le (by omega)]
    simp [rd, List.getD_eq_getElem?_getD, hl]
  have h7 : (l.take 7).length = 7 := by rw [List.length_take]; omega
  have hx := By_rd hb 7
  have hv := leV_range _ (hb.take 7)
  have hs := leV_snoc (l.take 7) (rd l 7)
  rw [← e, h7] at hs
  rw [h7] at hv
  generalize leV (l.take 7) = v at hs hv
  rw [hs]
  have hp : (256 : Int) ^ 7 = 72057594037927936 := by decide
  rw [hp] at hv ⊢
  generalize rd l 7 = x at hx
  refine ⟨fun h => ?_, fun h => ?_⟩
  · rw [h, Int.zero_mul, Int.add_zero]
    exact w64 (by omega) (by omega)
  · unfold wrap64
    omega
theorem spec_okSuper (g r u f : Int) : spec_l2SuperOk.f g r u f = some (okSuper g r u f) := by
  unfold spec_l2SuperOk.f okSuper okPlace
  repeat' split
  all_goals
    congr 1
    rw [Bool.eq_iff_iff]
    simp
    omega
end Go.Proofs.Ytlopmffdebhpfaa.Pure

/-! ## G50 -/
namespace Go.Proofs.Ytlopmffdebhpfaa.G
open Go.RowKit Go.Proofs.YtlopmffdebhpfaaW.PrintWords Go.Proofs.YtlopmffdebhpfaaW.PrintLast Go.Proofs.YtlopmffdebhpfaaW.PrintMore
attribute [local go_sem] max2_int min2_int max_two min_two max_three min_three max_four min_four
set_option linter.unusedVariables false
set_option linter.unusedSimpArgs false

/-! ### spec_ReadPage: function 50 -/
end Go.Proofs.Ytlopmffdebhpfaa.G

/-! ## Law10 -/
namespace Go.Proofs.Ytlopmffdebhpfaa.G
open Go.RowKit Go.Proofs.YtlopmffdebhpfaaW.PrintWords Go.Proofs.YtlopmffdebhpfaaW.PrintLast Go.Proofs.YtlopmffdebhpfaaW.PrintMore
open Go.Proofs.Ytlopmffdebhpfaa.Pure (marks marks_length mark_l0)
set_option linter.unusedVariables false
set_option linter.unusedSimpArgs false

end Go.Proofs.Ytlopmffdebhpfaa.G

/-! ## DiskP -/
namespace Go.Proofs.Ytlopmffdebhpfaa.Pure
open Go.RowKit Go.Proofs.Ytlopmffdebhpfaa.G Go.Proofs.YtlopmffdebhpfaaW.PrintWords Go.Proofs.YtlopmffdebhpfaaW.PrintLast Go.Proofs.YtlopmffdebhpfaaW.PrintMore

theorem Cv.step {α : Type} {f g : Nat → Option α} {v : α} (hs : ∀ k, g (k + 1) = f k) (h : Cv f v) : Cv g v := Cv.succ h hs
theorem getD_mid {α : Type} (pre r : List α) (x z : α) : (pre ++ x :: r).getD ((pre.length : Int)).toNat z = x := by
  rw [Int.toNat_natCast, List.getD_eq_getElem?_getD, List.getElem?_append_right (Nat.le_refl _), Nat.sub_self]
  rfl
theorem mid_len {α : Type} (pre r : List α) (x : α) : ((pre ++ x :: r).length : Int) = pre.length + r.length + 1 := by simp; omega
theorem snoc_len {α : Type} (pre : List α) (x : α) : (((pre ++ [x]).length : Nat) : Int) = (pre.length : Int) + 1 := by simp
theorem mid_snoc {α : Type} (pre r : List α) (x : α) : pre ++ x :: r = (pre ++ [x]) ++ r := by simp
theorem set_mid {α : Type} (pre r : List α) (x y : α) : (pre ++ x :: r).set ((pre.length : Int)).toNat y = (pre ++ [y]) ++ r := by
  rw [Int.toNat_natCast, List.set_append_right _ _ (Nat.le_refl _), Nat.sub_self, List.set_cons_zero, List.append_assoc, List.singleton_append]
/-- A pending write, as the other package's type. -/
def cv (q : S184) : S185 := ⟨q.f0, q.f1⟩
theorem toSS_l0 : ∀ (r pre : List (List Int)), (∀ l ∈ r, l.length ≤ 281474976710656) → (pre ++ r).length ≤ 11728124029610 →
    Cv (fun k => laws_toByteSS.l0 k (pre ++ r) (pre ++ List.replicate r.length []) (pre.length : Int)) (pre ++ r)
  | [], pre, h, hm => by
    refine Cv.step (fun k => laws_toByteSS.l0.eq_2 _ _ _ k) (Cv.neg (by simp) (Cv.of ?_))
    simp
  | x :: r, pre, h, hm => by
    have h1 := mid_len pre r x
    have h2 : ((pre ++ List.replicate (x :: r).length ([] : List Int)).length : Int) = pre.length + r.length + 1 := by simp; omega
    refine Cv.step (fun k => laws_toByteSS.l0.eq_2 _ _ _ k) (Cv.pos (by omega) (Cv.pos (by omega) ?_))
    rw [show rd_L2 (pre ++ x :: r) (pre.length : Int) = x from getD_mid _ _ _ _]
    refine Cv.bind (toB (h x List.mem_cons_self)) (Cv.pos (by omega) ?_)
    rw [w64 (by omega) (by omega), List.length_cons, List.replicate_succ, set_mid, mid_snoc]
    have ih := toSS_l0 r (pre ++ [x]) (fun l hl => h l (List.mem_cons_of_mem _ hl)) (by simpa using hm)
    rw [snoc_len] at ih
    exact ih
theorem toSS {ls : List (List Int)} (h : ∀ l ∈ ls, l.length ≤ 281474976710656) (hm : ls.length ≤ 11728124029610) : Cv (fun k => laws_toByteSS.f k ls) ls := by
  unfold laws_toByteSS.f
  refine Cv.pos (by omega) (Cv.pos (by omega) ?_)
  have := toSS_l0 ls [] h (by simpa using hm)
  simpa using this
theorem toPS_l0 : ∀ (r pre : List S184), (∀ l ∈ r, l.f1.length ≤ 281474976710656) → (pre ++ r).length ≤ 8796093022208 →
    Cv (fun k => laws_toPendS.l0 k (pre ++ r) (pre.map cv ++ List.replicate r.length z185) (pre.length : Int)) ((pre ++ r).map cv)
  | [], pre, h, hm => by
    refine Cv.step (fun k => laws_toPendS.l0.eq_2 _ _ _ k) (Cv.neg (by simp) (Cv.of ?_))
    simp
  | x :: r, pre, h, hm => by
    have h1 := mid_len pre r x
    have h2 : ((pre.map cv ++ List.replicate (x :: r).length z185).length : Int) = pre.length + r.length + 1 := by simp; omega
    refine Cv.step (fun k => laws_toPendS.l0.eq_2 _ _ _ k) (Cv.pos (by omega) (Cv.pos (by omega) ?_))
    rw [show rd_T184 (pre ++ x :: r) (pre.length : Int) = x from getD_mid _ _ _ _]
    refine Cv.bind (v := (x.f0, x.f1)) ?_ (Cv.pos (by omega) ?_)
    · unfold laws_toPend.f
      exact Cv.bind (toB (h x List.mem_cons_self)) (Cv.of rfl)
    rw [w64 (by omega) (by omega), List.length_cons, List.replicate_succ]
    have hset := set_mid (pre.map cv) (List.replicate r.length z185) z185 (⟨x.f0, x.f1⟩ : S185)
    rw [List.length_map] at hset
    rw [hset, mid_snoc]
    have ih := toPS_l0 r (pre ++ [x]) (fun l hl => h l (List.mem_cons_of_mem _ hl)) (by simpa using hm)
    rw [snoc_len, List.map_append] at ih
    exact ih
theorem toPS {ls : List S184} (h : ∀ l ∈ ls, l.f1.length ≤ 281474976710656) (hm : ls.length ≤ 8796093022208) : Cv (fun k => laws_toPendS.f k ls) (ls.map cv) := by
  unfold laws_toPendS.f
  refine Cv.pos (by omega) (Cv.pos (by omega) ?_)
  have := toPS_l0 ls [] h (by simpa using hm)
  simpa using this
theorem toD {ls : List (List Int)} {ps : List S184} (h : ∀ l ∈ ls, l.length ≤ 281474976710656) (hm : ls.length ≤ 11728124029610) (h' : ∀ l ∈ ps, l.f1.length ≤ 281474976710656) (hm' : ps.length ≤ 8796093022208) : Cv (fun k => laws_toDisk.f k ls ps) (ls, ps.map cv) := by
  unfold laws_toDisk.f
  exact Cv.bind (toSS h hm) (Cv.bind (toPS h' hm') (Cv.of rfl))

/-! ### sizes -/
def totP4 : List S184 → Nat
  | [] => 0
  | p :: r => p.f1.length + totP4 r
theorem szSS_l0 : ∀ (r pre : List (List Int)) (a : Int), 0 ≤ a → a ≤ 1048576 → (∀ l ∈ r, l.length ≤ 9223372036854775807) → (pre ++ r).length ≤ 9223372036854775806 →
    ∃ s, Cv (fun k => laws_szByteSS.l0 k (pre ++ r) a (pre.length : Int)) s ∧ s ≤ 1048576 ∧ (0 ≤ s → (totL r : Int) + s = a)
  | [], pre, a, h0, ha, hr, hm => ⟨a, Cv.step (fun k => laws_szByteSS.l0.eq_2 _ _ _ k) (Cv.neg (by simp) (Cv.of rfl)), ha, fun _ => by simp [totL]⟩
  | x :: r, pre, a, h0, ha, hr, hm => by
    have h1 := mid_len pre r x
    have hx := hr x List.mem_cons_self
    have hw : wrap64 (a - (x.length : Int)) = a - x.length := w64 (by omega) (by omega)
    by_cases hneg : a - (x.length : Int) < 0
    · refine ⟨-1, Cv.step (fun k => laws_szByteSS.l0.eq_2 _ _ _ k) (Cv.pos (by omega) (Cv.pos (by omega) ?_)), by omega, fun h => by omega⟩
      rw [show rd_L2 (pre ++ x :: r) (pre.length : Int) = x from getD_mid _ _ _ _]
      refine Cv.bind (v := -1) (Cv.of ?_) (Cv.pos (by decide) (Cv.of rfl))
      unfold laws_szByteS.f
      rw [hw, if_pos hneg]
    · obtain ⟨s, hs, hs1, hs2⟩ := szSS_l0 r (pre ++ [x]) (a - x.length) (by omega) (by omega) (fun l hl => hr l (List.mem_cons_of_mem _ hl)) (by simpa using hm)
      refine ⟨s, Cv.step (fun k => laws_szByteSS.l0.eq_2 _ _ _ k) (Cv.pos (by omega) (Cv.pos (by omega) ?_)), hs1, fun h => by have := hs2 h; simp only [totL]; omega⟩
      rw [show rd_L2 (pre ++ x :: r) (pre.length : Int) = x from getD_mid _ _ _ _]
      refine Cv.bind (v := a - (x.length : Int)) (Cv.of ?_) (Cv.neg hneg ?_)
      · unfold laws_szByteS.f
        rw [hw, if_neg hneg]
      · rw [w64 (by omega) (by omega)]
        rw [snoc_len, ← mid_snoc] at hs
        exact hs
theorem szSS {ls : List (List Int)} {a : Int} (h0 : 0 ≤ a) (ha : a ≤ 1048576) (hr : ∀ l ∈ ls, l.length ≤ 9223372036854775807) (hm : ls.length ≤ 9223372036854775807) :
    ∃ s, Cv (fun k => laws_szByteSS.f k ls a) s ∧ s ≤ 1048576 ∧ (0 ≤ s → (totL ls : Int) + ls.length + s = a) := by
  have hw : wrap64 (a - (ls.length : Int)) = a - ls.length := w64 (by omega) (by omega)
  by_cases hneg : a - (ls.length : Int) < 0
  · refine ⟨-1, ?_, by omega, fun h => by omega⟩
    unfold laws_szByteSS.f
    rw [hw]
    exact Cv.pos hneg (Cv.of rfl)
  · obtain ⟨s, hs, h1, h2⟩ := szSS_l0 ls [] (a - ls.length) (by omega) (by omega) hr (by simp; omega)
    refine ⟨s, ?_, h1, fun h => by have := h2 h; omega⟩
    unfold laws_szByteSS.f
    rw [hw]
    exact Cv.neg hneg hs
theorem szPS_l0 : ∀ (r pre : List S184) (a : Int), 0 ≤ a → a ≤ 1048576 → (∀ l ∈ r, l.f1.length ≤ 9223372036854775807) → (pre ++ r).length ≤ 9223372036854775806 →
    ∃ s, Cv (fun k => laws_szPendS.l0 k (pre ++ r) a (pre.length : Int)) s ∧ s ≤ 1048576 ∧ (0 ≤ s → (totP4 r : Int) + s = a)
  | [], pre, a, h0, ha, hr, hm => ⟨a, Cv.step (fun k => laws_szPendS.l0.eq_2 _ _ _ k) (Cv.neg (by simp) (Cv.of rfl)), ha, fun _ => by simp [totP4]⟩
  | x :: r, pre, a, h0, ha, hr, hm => by
    have h1 := mid_len pre r x
    have hx := hr x List.mem_cons_self
    have hw : wrap64 (a - (x.f1.length : Int)) = a - x.f1.length := w64 (by omega) (by omega)
    by_cases hneg : a - (x.f1.length : Int) < 0
    · refine ⟨-1, Cv.step (fun k => laws_szPendS.l0.eq_2 _ _ _ k) (Cv.pos (by omega) (Cv.pos (by omega) ?_)), by omega, fun h => by omega⟩
      rw [show rd_T184 (pre ++ x :: r) (pre.length : Int) = x from getD_mid _ _ _ _]
      refine Cv.bind (v := -1) (Cv.of ?_) (Cv.pos (by decide) (Cv.of rfl))
      unfold laws_szPend.f laws_szByteS.f
      rw [hw, if_pos hneg, Option.bind_some, if_pos (by decide)]
    · obtain ⟨s, hs, hs1, hs2⟩ := szPS_l0 r (pre ++ [x]) (a - x.f1.length) (by omega) (by omega) (fun l hl => hr l (List.mem_cons_of_mem _ hl)) (by simpa using hm)
      refine ⟨s, Cv.step (fun k => laws_szPendS.l0.eq_2 _ _ _ k) (Cv.pos (by omega) (Cv.pos (by omega) ?_)), hs1, fun h => by have := hs2 h; simp only [totP4]; omega⟩
      rw [show rd_T184 (pre ++ x :: r) (pre.length : Int) = x from getD_mid _ _ _ _]
      refine Cv.bind (v := a - (x.f1.length : Int)) (Cv.of ?_) (Cv.neg hneg ?_)
      · unfold laws_szPend.f laws_szByteS.f
        rw [hw, if_neg hneg, Option.bind_some, if_neg hneg]
      · rw [w64 (by omega) (by omega)]
        rw [snoc_len, ← mid_snoc] at hs
        exact hs
theorem szPS {ls : List S184} {a : Int} (h0 : 0 ≤ a) (ha : a ≤ 1048576) (hr : ∀ l ∈ ls, l.f1.length ≤ 9223372036854775807) (hm : ls.length ≤ 9223372036854775807) :
    ∃ s, Cv (fun k => laws_szPendS.f k ls a) s ∧ s ≤ 1048576 ∧ (0 ≤ s → (totP4 ls : Int) + ls.length + s = a) := by
  have hw : wrap64 (a - (ls.length : Int)) = a - ls.length := w64 (by omega) (by omega)
  by_cases hneg : a - (ls.length : Int) < 0
  · refine ⟨-1, ?_, by omega, fun h => by omega⟩
    unfold laws_szPendS.f
    rw [hw]
    exact Cv.pos hneg (Cv.of rfl)
  · obtain ⟨s, hs, h1, h2⟩ := szPS_l0 ls [] (a - ls.length) (by omega) (by omega) hr (by simp; omega)
    refine ⟨s, ?_, h1, fun h => by have := h2 h; omega⟩
    unfold laws_szPendS.f
    rw [hw]
    exact Cv.neg hneg hs
theorem szD {ls : List (List Int)} {ps : List S184} {a : Int} (h0 : 0 ≤ a) (ha : a ≤ 1048576) (hr : ∀ l ∈ ls, l.length ≤ 9223372036854775807) (hm : ls.length ≤ 9223372036854775807) (hr' : ∀ l ∈ ps, l.f1.length ≤ 9223372036854775807) (hm' : ps.length ≤ 9223372036854775807) :
    ∃ s, Cv (fun k => laws_szDisk.f k ls ps a) s ∧ s ≤ 1048576 ∧ (0 ≤ s → (totL ls : Int) + ls.length + (totP4 ps + ps.length) + s = a) := by
  obtain ⟨s, hs, h1, h2⟩ := szSS h0 ha hr hm
  by_cases hneg : s < 0
  · refine ⟨-1, ?_, by omega, fun h => by omega⟩
    unfold laws_szDisk.f
    exact Cv.bind hs (Cv.pos hneg (Cv.of rfl))
  · obtain ⟨t, ht, h3, h4⟩ := szPS (a := s) (by omega) h1 hr' hm'
    by_cases hneg2 : t < 0
    · refine ⟨-1, ?_, by omega, fun h => by omega⟩
      unfold laws_szDisk.f
      exact Cv.bind hs (Cv.neg hneg (Cv.bind ht (Cv.pos hneg2 (Cv.of rfl))))
    · refine ⟨t, ?_, h3, fun h => by have := h2 (by omega); have := h4 h; omega⟩
      unfold laws_szDisk.f
      exact Cv.bind hs (Cv.neg hneg (Cv.bind ht (Cv.neg hneg2 (Cv.of rfl))))
theorem le_totL {l : List Int} : ∀ {ls : List (List Int)}, l ∈ ls → l.length ≤ totL ls
  | x :: r, h => by
    rcases List.mem_cons.1 h with rfl | h
    · simp [totL]
    · have := le_totL h
      simp only [totL]
      omega
theorem le_totP4 {q : S184} : ∀ {ls : List S184}, q ∈ ls → q.f1.length ≤ totP4 ls
  | x :: r, h => by
    rcases List.mem_cons.1 h with rfl | h
    · simp [totP4]
    · have := le_totP4 h
      simp only [totP4]
      omega
/-! ### comparisons -/
theorem eqSS_l0 : ∀ (r pre : List (List Int)), (∀ l ∈ r, l.length ≤ 9223372036854775806) → (pre ++ r).length ≤ 9223372036854775806 → Cv (fun k => laws_eqByteSS.l0 k (pre ++ r) (pre ++ r) (pre.length : Int)) true
  | [], pre, h, hm => Cv.step (fun k => laws_eqByteSS.l0.eq_2 _ _ _ k) (Cv.neg (by simp) (Cv.of rfl))
  | x :: r, pre, h, hm => by
    have h1 := mid_len pre r x
    refine Cv.step (fun k => laws_eqByteSS.l0.eq_2 _ _ _ k) (Cv.pos (by omega) (Cv.pos (by omega) (Cv.pos (by omega) ?_)))
    rw [show rd_L2 (pre ++ x :: r) (pre.length : Int) = x from getD_mid _ _ _ _]
    refine Cv.bind (eqB (h x List.mem_cons_self)) (Cv.pos (decide_eq_true rfl) ?_)
    rw [w64 (by omega) (by omega), mid_snoc, ← snoc_len pre x]
    exact eqSS_l0 r (pre ++ [x]) (fun l hl => h l (List.mem_cons_of_mem _ hl)) (by simpa using hm)
theorem eqPS_l0 : ∀ (r pre : List S185), (∀ l ∈ r, l.f1.length ≤ 9223372036854775806) → (pre ++ r).length ≤ 9223372036854775806 → Cv (fun k => laws_eqPendS.l0 k (pre ++ r) (pre ++ r) (pre.length : Int)) true
  | [], pre, h, hm => Cv.step (fun k => laws_eqPendS.l0.eq_2 _ _ _ k) (Cv.neg (by simp) (Cv.of rfl))
  | x :: r, pre, h, hm => by
    have h1 := mid_len pre r x
    refine Cv.step (fun k => laws_eqPendS.l0.eq_2 _ _ _ k) (Cv.pos (by omega) (Cv.pos (by omega) (Cv.pos (by omega) ?_)))
    rw [show rd_T185 (pre ++ x :: r) (pre.length : Int) = x from getD_mid _ _ _ _]
    refine Cv.bind (v := true) ?_ (Cv.pos rfl ?_)
    · unfold laws_eqPend.f
      exact Cv.pos rfl (Cv.bind (eqB (h x List.mem_cons_self)) (Cv.pos (decide_eq_true rfl) (Cv.of rfl)))
    rw [w64 (by omega) (by omega), mid_snoc, ← snoc_len pre x]
    exact eqPS_l0 r (pre ++ [x]) (fun l hl => h l (List.mem_cons_of_mem _ hl)) (by simpa using hm)
theorem eqD {ls : List (List Int)} {ps : List S185} (h : ∀ l ∈ ls, l.length ≤ 9223372036854775806) (hm : ls.length ≤ 9223372036854775806) (h' : ∀ l ∈ ps, l.f1.length ≤ 9223372036854775806) (hm' : ps.length ≤ 9223372036854775806) : Cv (fun k => laws_eqDisk.f k ls ps ls ps) true := by
  unfold laws_eqDisk.f
  refine Cv.bind (v := true) ?_ (Cv.pos rfl (Cv.bind (v := true) ?_ (Cv.pos rfl (Cv.of rfl))))
  · unfold laws_eqByteSS.f
    exact Cv.pos rfl (eqSS_l0 ls [] h (by simpa using hm))
  · unfold laws_eqPendS.f
    exact Cv.pos rfl (eqPS_l0 ps [] h' (by simpa using hm'))

/-! ### valid disks -/
def okP (n : Nat) (p : S185) : Prop := 0 ≤ p.f0 ∧ p.f0 < (n : Int) ∧ p.f1.length = 64
instance (n : Nat) (p : S185) : Decidable (okP n p) := by unfold okP; exact inferInstance
def okDisk (safe : List (List Int)) (ps : List S185) : Prop := 1 ≤ safe.length ∧ safe.length ≤ 4096 ∧ ps.length ≤ 5000 ∧ (∀ l ∈ safe, l.length = 64) ∧ ∀ p ∈ ps, okP safe.length p
instance (safe : List (List Int)) (ps : List S185) : Decidable (okDisk safe ps) := by unfold okDisk; exact inferInstance
theorem impl_ok_l1 (safe : List (List Int)) (ps : List S185) : ∀ (r pre : List S185), (pre ++ r).length ≤ 9223372036854775806 → Cv (fun k => impl_DiskOk.l1 k (pre ++ r) ((pre ++ r).length : Int) (pre.length : Int) safe ps) (decide (∀ p ∈ r, okP safe.length p))
  | [], pre, hm => Cv.step (fun k => impl_DiskOk.l1.eq_2 _ _ _ _ _ k) (Cv.neg (by simp) (Cv.of (by simp)))
  | x :: r, pre, hm => by
    have h1 := mid_len pre r x
    refine Cv.step (fun k => impl_DiskOk.l1.eq_2 _ _ _ _ _ k) (Cv.pos (by omega) (Cv.pos (by omega) (Cv.pos (by omega) ?_)))
    rw [show rd_T185 (pre ++ x :: r) (pre.length : Int) = x from getD_mid _ _ _ _]
    by_cases h : okP safe.length x
    · have hh := h
      unfold okP at hh
      refine Cv.neg (by omega) (Cv.neg (by omega) (Cv.pos (by omega) ?_))
      have ih := impl_ok_l1 safe ps r (pre ++ [x]) (by simpa using hm)
      rw [← mid_snoc, snoc_len] at ih
      rw [w64 (by omega) (by omega)]
      have e : decide (∀ p ∈ x :: r, okP safe.length p) = decide (∀ p ∈ r, okP safe.length p) := by simp [h]
      rw [e]
      exact ih
    · rw [decide_eq_false (fun hall => h (hall x List.mem_cons_self))]
      unfold okP at h
      by_cases g1 : x.f0 < 0
      · exact Cv.pos g1 (Cv.of rfl)
      · by_cases g2 : x.f0 ≥ (safe.length : Int)
        · exact Cv.neg g1 (Cv.pos g2 (Cv.of rfl))
        · exact Cv.neg g1 (Cv.neg g2 (Cv.neg (by omega) (Cv.of rfl)))
theorem impl_ok_l0 (safe : List (List Int)) (ps : List S185) (hp : ps.length ≤ 9223372036854775806) : ∀ (r pre : List (List Int)), (pre ++ r).length ≤ 9223372036854775806 → Cv (fun k => impl_DiskOk.l0 k (pre ++ r) ((pre ++ r).length : Int) (pre.length : Int) safe ps) (decide ((∀ l ∈ r, l.length = 64) ∧ ∀ p ∈ ps, okP safe.length p))
  | [], pre, hm => by
    refine Cv.step (fun k => impl_DiskOk.l0.eq_2 _ _ _ _ _ k) (Cv.neg (by simp) ?_)
    have h := impl_ok_l1 safe ps ps [] (by simpa using hp)
    simpa using h
  | x :: r, pre, hm => by
    have h1 := mid_len pre r x
    refine Cv.step (fun k => impl_DiskOk.l0.eq_2 _ _ _ _ _ k) (Cv.pos (by omega) (Cv.pos (by omega) (Cv.pos (by omega) ?_)))
    rw [show rd_L2 (pre ++ x :: r) (pre.length : Int) = x from getD_mid _ _ _ _]
    by_cases h : x.length = 64
    · refine Cv.pos (by omega) ?_
      have ih := impl_ok_l0 safe ps hp r (pre ++ [x]) (by simpa using hm)
      rw [← mid_snoc, snoc_len] at ih
      rw [w64 (by omega) (by omega)]
      have e : decide ((∀ l ∈ x :: r, l.length = 64) ∧ ∀ p ∈ ps, okP safe.length p) = decide ((∀ l ∈ r, l.length = 64) ∧ ∀ p ∈ ps, okP safe.length p) := by simp [h]
      rw [e]
      exact ih
    · rw [decide_eq_false (fun hall => h (hall.1 x List.mem_cons_self))]
      exact Cv.neg (by omega) (Cv.of rfl)
theorem impl_ok {safe : List (List Int)} {ps : List S185} : Cv (fun k => impl_DiskOk.f k safe ps) (decide (okDisk safe ps)) := by
  have hj : ∀ (c : Bool), c = true → Cv (fun k => impl_DiskOk.j0 k c safe ps) false := fun c hc => Cv.step (fun k => impl_DiskOk.j0.eq_2 _ _ _ k) (Cv.pos hc (Cv.of rfl))
  unfold impl_DiskOk.f
  by_cases h1 : (safe.length : Int) < 1
  · rw [decide_eq_false (p := okDisk safe ps) (fun h => by unfold okDisk at h; omega)]
    exact Cv.pos h1 (hj _ rfl)
  refine Cv.neg h1 ?_
  by_cases h2 : (safe.length : Int) > 4096
  · rw [decide_eq_false (p := okDisk safe ps) (fun h => by unfold okDisk at h; omega)]
    exact Cv.pos h2 (hj _ rfl)
  refine Cv.neg h2 ?_
  by_cases h3 : (ps.length : Int) > 5000
  · rw [decide_eq_false (p := okDisk safe ps) (fun h => by unfold okDisk at h; omega)]
    exact hj _ (decide_eq_true h3)
  · rw [show decide ((ps.length : Int) > 5000) = false from decide_eq_false h3]
    refine Cv.step (fun k => impl_DiskOk.j0.eq_2 _ _ _ k) (Cv.neg (by decide) ?_)
    have h := impl_ok_l0 safe ps (by omega) safe [] (by simp; omega)
    have e : decide (okDisk safe ps) = decide ((∀ l ∈ safe, l.length = 64) ∧ ∀ p ∈ ps, okP safe.length p) := by
      have g1 : 1 ≤ safe.length := by omega
      have g2 : safe.length ≤ 4096 := by omega
      have g3 : ps.length ≤ 5000 := by omega
      unfold okDisk
      simp [g1, g2, g3]
    rw [e]
    exact h
theorem spec_ok_l1 (safe : List (List Int)) : ∀ (r pre : List S185), (pre ++ r).length ≤ 9223372036854775806 → Cv (fun k => spec_DiskOk.l1 k (safe.length : Int) (pre.length : Int) safe (pre ++ r)) (decide (∀ p ∈ r, okP safe.length p))
  | [], pre, hm => Cv.step (fun k => spec_DiskOk.l1.eq_2 _ _ _ _ k) (Cv.neg (by simp) (Cv.of (by simp)))
  | x :: r, pre, hm => by
    have h1 := mid_len pre r x
    refine Cv.step (fun k => spec_DiskOk.l1.eq_2 _ _ _ _ k) (Cv.pos (by omega) (Cv.pos (by omega) ?_))
    rw [show rd_T185 (pre ++ x :: r) (pre.length : Int) = x from getD_mid _ _ _ _]
    by_cases h : okP safe.length x
    · have hh := h
      unfold okP at hh
      refine Cv.neg (by omega) (Cv.neg (by omega) (Cv.pos (by omega) ?_))
      have ih := spec_ok_l1 safe r (pre ++ [x]) (by simpa using hm)
      rw [← mid_snoc, snoc_len] at ih
      rw [w64 (by omega) (by omega)]
      have e : decide (∀ p ∈ x :: r, okP safe.length p) = decide (∀ p ∈ r, okP safe.length p) := by simp [h]
      rw [e]
      exact ih
    · rw [decide_eq_false (fun hall => h (hall x List.mem_cons_self))]
      unfold okP at h
      by_cases g1 : x.f0 < 0
      · exact Cv.pos g1 (Cv.of rfl)
      · by_cases g2 : x.f0 ≥ (safe.length : Int)
        · exact Cv.neg g1 (Cv.pos g2 (Cv.of rfl))
        · exact Cv.neg g1 (Cv.neg g2 (Cv.neg (by omega) (Cv.of rfl)))
theorem spec_ok_l0 (ps : List S185) (hp : ps.length ≤ 9223372036854775806) : ∀ (r pre : List (List Int)), (pre ++ r).length ≤ 9223372036854775806 → Cv (fun k => spec_DiskOk.l0 k ((pre ++ r).length : Int) (pre.length : Int) (pre ++ r) ps) (decide ((∀ l ∈ r, l.length = 64) ∧ ∀ p ∈ ps, okP (pre ++ r).length p))
  | [], pre, hm => by
    refine Cv.step (fun k => spec_DiskOk.l0.eq_2 _ _ _ _ k) (Cv.neg (by simp) ?_)
    have h := spec_ok_l1 (pre ++ []) ps [] (by simpa using hp)
    simpa using h
  | x :: r, pre, hm => by
    have h1 := mid_len pre r x
    refine Cv.step (fun k => spec_DiskOk.l0.eq_2 _ _ _ _ k) (Cv.pos (by omega) (Cv.pos (by omega) (Cv.pos (by omega) ?_)))
    rw [show rd_L2 (pre ++ x :: r) (pre.length : Int) = x from getD_mid _ _ _ _]
    by_cases h : x.length = 64
    · refine Cv.pos (by omega) ?_
      have ih := spec_ok_l0 ps hp r (pre ++ [x]) (by simpa using hm)
      rw [← mid_snoc, snoc_len] at ih
      rw [w64 (by omega) (by omega)]
      have e : decide ((∀ l ∈ x :: r, l.length = 64) ∧ ∀ p ∈ ps, okP (pre ++ x :: r).length p) = decide ((∀ l ∈ r, l.length = 64) ∧ ∀ p ∈ ps, okP (pre ++ x :: r).length p) := by simp [h]
      rw [e]
      exact ih
    · rw [decide_eq_false (fun hall => h (hall.1 x List.mem_cons_self))]
      exact Cv.neg (by omega) (Cv.of rfl)
theorem spec_ok {safe : List (List Int)} {ps : List S185} : Cv (fun k => spec_DiskOk.f k safe ps) (decide (okDisk safe ps)) := by
  have hj : ∀ (c : Bool), c = true → Cv (fun k => spec_DiskOk.j0 k (safe.length : Int) c safe ps) false := fun c hc => Cv.step (fun k => spec_DiskOk.j0.eq_2 _ _ _ _ k) (Cv.pos hc (Cv.of rfl))
  unfold spec_DiskOk.f
  by_cases h1 : (safe.length : Int) < 1
  · rw [decide_eq_false (p := okDisk safe ps) (fun h => by unfold okDisk at h; omega)]
    exact Cv.pos h1 (hj _ rfl)
  refine Cv.neg h1 ?_
  by_cases h2 : (safe.length : Int) > 4096
  · rw [decide_eq_false (p := okDisk safe ps) (fun h => by unfold okDisk at h; omega)]
    exact Cv.pos h2 (hj _ rfl)
  refine Cv.neg h2 ?_
  by_cases h3 : (ps.length : Int) > 5000
  · rw [decide_eq_false (p := okDisk safe ps) (fun h => by unfold okDisk at h; omega)]
    exact hj _ (decide_eq_true h3)
  · rw [show decide ((ps.length : Int) > 5000) = false from decide_eq_false h3]
    refine Cv.step (fun k => spec_DiskOk.j0.eq_2 _ _ _ _ k) (Cv.neg (by decide) ?_)
    have h := spec_ok_l0 ps (by omega) safe [] (by simp; omega)
    have e : decide (okDisk safe ps) = decide ((∀ l ∈ safe, l.length = 64) ∧ ∀ p ∈ ps, okP safe.length p) := by
      have g1 : 1 ≤ safe.length := by omega
      have g2 : safe.length ≤ 4096 := by omega
      have g3 : ps.length ≤ 5000 := by omega
      unfold okDisk
      simp [g1, g2, g3]
    rw [e]
    exact h

/-! ### what sectors hold now -/
def nowL (safe : List (List Int)) (ps : List S185) : List (List Int) := ps.foldl (fun s p => s.set p.f0.toNat p.f1) safe
theorem nowL_length : ∀ (ps : List S185) (safe : List (List Int)), (nowL safe ps).length = safe.length
  | [], _ => rfl
  | p :: r, safe => by
    have := nowL_length r (safe.set p.f0.toNat p.f1)
    simpa [nowL] using this
theorem nowL_snoc (safe : List (List Int)) (ps : List S185) (p : S185) : nowL safe (ps ++ [p]) = (nowL safe ps).set p.f0.toNat p.f1 := by
  unfold nowL
  rw [List.foldl_append]
  rfl
theorem spec_now_l0 (s0 : List (List Int)) (n : Nat) (hn : n ≤ 4096) : ∀ (r pre : List S185) (acc : List (List Int)), (pre ++ r).length ≤ 9223372036854775806 → acc.length = n → (∀ p ∈ r, okP n p) → Cv (fun k => spec_l1Now.l0 k acc (pre.length : Int) s0 (pre ++ r)) (nowL acc r)
  | [], pre, acc, hm, ha, hr => Cv.step (fun k => spec_l1Now.l0.eq_2 _ _ _ _ k) (Cv.neg (by simp) (Cv.of rfl))
  | x :: r, pre, acc, hm, ha, hr => by
    have h1 := mid_len pre r x
    have hx := hr x List.mem_cons_self
    unfold okP at hx
    refine Cv.step (fun k => spec_l1Now.l0.eq_2 _ _ _ _ k) (Cv.pos (by omega) (Cv.pos (by omega) ?_))
    rw [show rd_T185 (pre ++ x :: r) (pre.length : Int) = x from getD_mid _ _ _ _]
    refine Cv.pos (by omega) (Cv.pos (by omega) ?_)
    have ih := spec_now_l0 s0 n hn r (pre ++ [x]) (acc.set x.f0.toNat x.f1) (by simpa using hm) (by simpa using ha) (fun p hp => hr p (List.mem_cons_of_mem _ hp))
    rw [← mid_snoc, snoc_len] at ih
    rw [w64 (by omega) (by omega)]
    exact ih
theorem spec_now {safe : List (List Int)} {ps : List S185} (h : okDisk safe ps) : Cv (fun k => spec_l1Now.f k safe ps) (nowL safe ps) := by
  obtain ⟨h1, h2, h3, h4, h5⟩ := h
  unfold spec_l1Now.f
  refine Cv.bind (Cv.of rfl) (Cv.pos (by simp; omega) ?_)
  exact spec_now_l0 safe safe.length h2 ps [] ([] ++ safe) (by simp; omega) (by simp) h5
theorem lastM_range : ∀ (n : Nat) (ps : List S185), ps.length = n → ∀ y i, lastM ps y = some i → 0 ≤ i ∧ i < (ps.length : Int)
  | 0, ps, hn, y, i, h => by
    obtain rfl := List.eq_nil_of_length_eq_zero hn
    rw [lastM_nil] at h
    cases h
  | n + 1, ps, hn, y, i, h => by
    obtain ⟨qs, q, rfl⟩ : ∃ qs q, ps = qs ++ [q] := by
      rcases List.eq_nil_or_concat ps with rfl | ⟨qs, q, e⟩
      · simp at hn
      · exact ⟨qs, q, by simpa using e⟩
    have hl : qs.length = n := by simpa using hn
    rw [lastM_snoc] at h
    dsimp only at h
    by_cases hy : y = q.f0
    · rw [if_pos hy] at h
      obtain rfl := Option.some.inj h
      simp
      omega
    · rw [if_neg hy] at h
      have := lastM_range n qs hl y i h
      simp
      omega
theorem now_last {safe : List (List Int)} : ∀ (n : Nat) (ps : List S185), ps.length = n → (∀ p ∈ ps, okP safe.length p) → ∀ y, 0 ≤ y → y < (safe.length : Int) →
    rd_L2 (nowL safe ps) y = (match lastM ps y with | some i => (rd_T185 ps i).f1 | none => rd_L2 safe y)
  | 0, ps, hn, hp, y, h0, h1 => by
    obtain rfl := List.eq_nil_of_length_eq_zero hn
    rw [lastM_nil]
    rfl
  | n + 1, ps, hn, hp, y, h0, h1 => by
    obtain ⟨qs, q, rfl⟩ : ∃ qs q, ps = qs ++ [q] := by
      rcases List.eq_nil_or_concat ps with rfl | ⟨qs, q, e⟩
      · simp at hn
      · exact ⟨qs, q, by simpa using e⟩
    have hl : qs.length = n := by simpa using hn
    have hq := hp q (by simp)
    unfold okP at hq
    have ih := now_last n qs hl (fun p h => hp p (by simp [h])) y h0 h1
    have hnl := nowL_length qs safe
    rw [lastM_snoc, nowL_snoc]
    dsimp only
    by_cases hy : y = q.f0
    · rw [if_pos hy]
      subst hy
      dsimp only
      have e1 : rd_T185 (qs ++ [q]) (qs.length : Int) = q := by
        have := getD_mid qs [] q z185
        exact this
      rw [e1]
      unfold rd_L2
      rw [List.getD_eq_getElem?_getD, List.getElem?_set_self (by omega)]
      rfl
    · rw [if_neg hy]
      have e2 : rd_L2 ((nowL safe qs).set q.f0.toNat q.f1) y = rd_L2 (nowL safe qs) y := by
        unfold rd_L2
        rw [List.getD_eq_getElem?_getD, List.getElem?_set_ne (by omega), List.getD_eq_getElem?_getD]
      rw [e2, ih]
      cases hm : lastM qs y with
      | none => rfl
      | some i =>
        have hi := lastM_range n qs hl y i hm
        dsimp only
        congr 1
        unfold rd_T185
        rw [List.getD_eq_getElem?_getD, List.getD_eq_getElem?_getD, List.getElem?_append_left (by omega)]

/-! ### ReadSector -/
theorem nowL_len : ∀ (ps : List S185) (safe : List (List Int)), (∀ l ∈ safe, l.length = 64) → (∀ p ∈ ps, p.f1.length = 64) → ∀ l ∈ nowL safe ps, l.length = 64
  | [], _, h, _ => h
  | p :: r, safe, h, hp => by
    refine nowL_len r (safe.set p.f0.toNat p.f1) (fun l hl => ?_) (fun q hq => hp q (List.mem_cons_of_mem _ hq))
    rcases List.mem_or_eq_of_mem_set hl with h1 | h1
    · exact h l h1
    · rw [h1]; exact hp p List.mem_cons_self
theorem rd_L2_mem {ls : List (List Int)} {x : Int} (h0 : 0 ≤ x) (h1 : x < (ls.length : Int)) : rd_L2 ls x ∈ ls := by
  unfold rd_L2
  rw [List.getD_eq_getElem?_getD, List.getElem?_eq_getElem (by omega)]
  exact List.getElem_mem _
theorem rows_len {w : World} {A : Option Addr} {n : Nat} {xs : List (List Int)} (h : Kd.C (Kd.slice 5 (Kd.int .u8)) w A n xs) : ∀ l ∈ xs, l.length ≤ 9223372036854775807 := by
  intro l hl
  obtain ⟨i, hi⟩ := List.getElem?_of_mem hl
  have hn : 0 < n := by
    have := (List.getElem?_eq_some_iff.1 hi).1
    rw [h.1] at this
    omega
  obtain ⟨ad, _, hc⟩ := h.2.2 hn
  obtain ⟨c, _, ⟨A', c', _, _, hC⟩, _⟩ := hc i l hi
  exact hC.2.1
theorem pends_len {w : World} {A : Option Addr} {n : Nat} {xs : List S184} (h : Kd.C k184 w A n xs) : ∀ q ∈ xs, q.f1.length ≤ 9223372036854775807 := by
  intro q hq
  obtain ⟨i, hi⟩ := List.getElem?_of_mem hq
  have hn : 0 < n := by
    have := (List.getElem?_eq_some_iff.1 hi).1
    rw [h.1] at this
    omega
  obtain ⟨ad, _, hc⟩ := h.2.2 hn
  obtain ⟨c, _, hK, _⟩ := hc i q hi
  obtain ⟨A', c', _, _, hC⟩ := k184_open hK
  exact hC.2.1
end Go.Proofs.Ytlopmffdebhpfaa.Pure

/-! ## Open -/
namespace Go.Proofs.Ytlopmffdebhpfaa.G
open Go.RowKit Go.ChangeShapes Go.WideShapes Go.ChangeAt Go.Proofs.YtlopmffdebhpfaaW.PrintWords Go.Proofs.YtlopmffdebhpfaaW.PrintLast Go.Proofs.YtlopmffdebhpfaaW.PrintMore
section
variable {H : Type} {enc : TypeId × Value → H} {P : Program} {w : World} {base : Nat} {spare : Nat → Bool} {held : Bool}
theorem choose_list {α : Type} (n : Nat) (R : Nat → α → Prop) (h : ∀ i, i < n → ∃ x, R i x) : ∃ xs : List α, xs.length = n ∧ ∀ i x, xs[i]? = some x → R i x := by
  induction n with
  | zero => exact ⟨[], rfl, fun i x hx => by simp at hx⟩
  | succ n ih =>
    obtain ⟨xs, hl, hx⟩ := ih (fun i hi => h i (by omega))
    obtain ⟨y, hy⟩ := h n (by omega)
    refine ⟨xs ++ [y], by simp [hl], fun i x hi => ?_⟩
    rcases Nat.lt_or_ge i xs.length with h1 | h1
    · rw [List.getElem?_append_left h1] at hi
      exact hx i x hi
    · rw [List.getElem?_append_right h1] at hi
      have h2 : i - xs.length = 0 := by
        have := (List.getElem?_eq_some_iff.1 hi).1
        simp at this
        omega
      rw [h2] at hi
      obtain rfl : y = x := by simpa using hi
      rw [show i = n by omega]
      exact hy
/-- A slice's reading tells a row that is read. -/
theorem open_rows {α : Type} (d : Kd α) (wf : α → Prop) {t e : TypeId} {fuel : Nat} {cs : List Value} {x : DataW H × List MemPlace} (ht : P.underlying t = some (.slice e)) (hsz : P.cellsOf e = d.sz)
    (hel : ∀ n cs y, DataW.trod enc P w base spare held n e cs = some y → ∃ z, d.K w z cs ∧ wf z) (h : DataW.trod enc P w base spare held fuel t cs = some x) :
    ∃ A c zs, cs = [.slice A zs.length c] ∧ zs.length ≤ c ∧ Kd.C d w A zs.length zs ∧ ∀ z ∈ zs, wf z := by
  rcases DataW.trod_slice ht h with ⟨rfl, _⟩ | ⟨a, len, cap, elems, rest, n, _, rfl, _, _, hl, hm, hlen, hE, _⟩
  · exact ⟨none, 0, [], rfl, Nat.le_refl _, ⟨rfl, Nat.zero_le _, fun h0 => absurd h0 (Nat.lt_irrefl 0)⟩, fun z hz => by cases hz⟩
  have hpick : ∀ i, i < len → ∃ z : α, wf z ∧ ∃ c, c.length = d.sz ∧ d.K w z c ∧ ∀ j u, c[j]? = some u → w.cell? (a.add (i * d.sz + j)) = some u := by
    intro i hi
    have h1 := hE i hi
    rw [List.getElem?_eq_getElem (by omega), Option.bind_eq_some_iff] at h1
    obtain ⟨c, hc, hy⟩ := h1
    obtain ⟨z, hK, hz⟩ := hel n c _ hy
    obtain ⟨_, hcl, hcc⟩ := World.cells?_some hc
    refine ⟨z, hz, c, by rw [hcl, hsz], hK, fun j u hu => ?_⟩
    have hj : j < P.cellsOf e := by
      have := (List.getElem?_eq_some_iff.1 hu).1
      omega
    have h2 := hcc j hj
    rw [hu] at h2
    rw [← h2, hsz]
    by_cases z1 : i * d.sz = 0 <;> by_cases z2 : j = 0 <;> simp [Addr.add, z1, z2, Nat.add_assoc]
  obtain ⟨zs, hzl, hzs⟩ := choose_list len _ hpick
  refine ⟨some a, cap, zs, by rw [hzl], by omega, ⟨rfl, by rw [hzl]; exact Nat.le_trans hl hm, fun _ => ⟨a, rfl, fun j p hp => (hzs j p hp).2⟩⟩, fun z hz => ?_⟩
  obtain ⟨i, hi⟩ := List.getElem?_of_mem hz
  exact (hzs i z hi).1
theorem open_el_int {k : IntKind} {e : TypeId} (he : P.underlying e = some (.int k)) (n : Nat) (cs : List Value) (y : DataW H × List MemPlace) (h : DataW.trod enc P w base spare held n e cs = some y) : ∃ z, (Kd.int k).K w z cs ∧ (Lit.int k z).wf = true := by
  obtain ⟨m, rfl, _, hw⟩ := DataW.trod_int he h
  exact ⟨m, rfl, hw⟩
theorem two_of_length {α : Type} : ∀ {l : List α}, l.length = 2 → ∃ u v, l = [u, v]
  | [u, v], _ => ⟨u, v, rfl⟩
/-- A row of bytes. -/
def Wb (l : List Int) : Prop := ∀ x ∈ l, (Lit.int .u8 x).wf = true
theorem open_el_bytes {t e : TypeId} (ht : P.underlying t = some (.slice e)) (he : P.underlying e = some (.int .u8)) (hc : P.cellsOf e = 1) (n : Nat) (cs : List Value) (y : DataW H × List MemPlace) (h : DataW.trod enc P w base spare held n t cs = some y) : ∃ z, (Kd.slice e (Kd.int .u8)).K w z cs ∧ Wb z := by
  obtain ⟨A, c, zs, rfl, hl, hC, hw⟩ := open_rows (Kd.int .u8) (fun x => (Lit.int .u8 x).wf = true) ht hc (open_el_int he) h
  exact ⟨zs, ⟨A, c, rfl, hl, hC⟩, hw⟩
theorem open_el_pend (n : Nat) (cs : List Value) (y : DataW H × List MemPlace) (h : DataW.trod enc Try.prog w base spare held n 184 cs = some y) : ∃ z, k184.K w z cs ∧ ((Lit.int .i64 z.f0).wf = true ∧ Wb z.f1) := by
  obtain ⟨y0, y1, m, _, hlen, h0, h1⟩ := trod_struct2 Try.underlying184 h
  obtain ⟨a, ha, _, hw⟩ := DataW.trod_int Try.underlying3 h0
  obtain ⟨z, hK, hz⟩ := open_el_bytes Try.underlying22 Try.underlying5 (by kernel_rfl) m _ _ h1
  obtain ⟨A, c, hb, hl, hC⟩ := hK
  have h3 : Try.prog.cellsOf 3 = 1 := by kernel_rfl
  have h22 : Try.prog.cellsOf 22 = 1 := by kernel_rfl
  have h184 : Try.prog.cellsOf 184 = 2 := by kernel_rfl
  rw [h184] at hlen
  rw [h3] at ha
  rw [h22] at hb
  obtain ⟨u, v, rfl⟩ := two_of_length hlen
  have ha' : u = .int .i64 a := by simpa using ha
  have hb' : v = .slice A z.length c := by simpa using hb
  rw [ha', hb']
  exact ⟨⟨a, z⟩, k184_mk w ⟨a, z⟩ hl hC, hw, hz⟩
/-- A disk that came in, opened. -/
structure ODisk (w : World) where
  A0 : Option Addr
  c0 : Nat
  A1 : Option Addr
  c1 : Nat
  l0 : List (List Int)
  l1 : List S184
  hc0 : l0.length ≤ c0
  hc1 : l1.length ≤ c1
  hr0 : Kd.C (Kd.slice 5 (Kd.int .u8)) w A0 l0.length l0
  hr1 : Kd.C k184 w A1 l1.length l1
  hw0 : ∀ l ∈ l0, Wb l
  hw1 : ∀ q ∈ l1, (Lit.int .i64 q.f0).wf = true ∧ Wb q.f1
def ODisk.v {w : World} (o : ODisk w) : Value := .agg #[.slice o.A0 o.l0.length o.c0, .slice o.A1 o.l1.length o.c1]
set_option maxRecDepth 100000 in
/-- A disk by value: its sectors and its pending writes. -/
theorem open_disk {r : Reach} {b0 : Nat} {v : Value} {d : DataW H} {p : List MemPlace} (hv : Value.okWide Try.prog w r b0 39 v) (h : DataW.Trod enc Try.prog w base spare held 39 v d p) : ∃ o : ODisk w, v = o.v := by
  obtain ⟨v0, v1, y0, y1, n, rfl, _, _, h0, h1⟩ := Go.Joins.open_agg2 Try.underlying39 (by kernel_rfl) (by kernel_rfl) hv h
  obtain ⟨A0, c0, l0, e0, hl0, hC0, hw0⟩ := open_rows (Kd.slice 5 (Kd.int .u8)) Wb Try.underlying36 (by kernel_rfl) (open_el_bytes Try.underlying22 Try.underlying5 (by kernel_rfl)) h0
  obtain ⟨A1, c1, l1, e1, hl1, hC1, hw1⟩ := open_rows k184 (fun q => (Lit.int .i64 q.f0).wf = true ∧ Wb q.f1) Try.underlying37 (by kernel_rfl) open_el_pend h1
  injection e0 with e0
  injection e1 with e1
  subst e0
  subst e1
  exact ⟨⟨A0, c0, A1, c1, l0, l1, hl0, hl1, hC0, hC1, hw0, hw1⟩, rfl⟩
end
end Go.Proofs.Ytlopmffdebhpfaa.G

/-! ## PureFnExactReadPage -/
namespace Go.Proofs.Ytlopmffdebhpfaa.Pure
open Go.RowKit Go.Proofs.Ytlopmffdebhpfaa.G Go.Proofs.YtlopmffdebhpfaaW.PrintWords Go.Proofs.YtlopmffdebhpfaaW.PrintLast Go.Proofs.YtlopmffdebhpfaaW.PrintMore
/-- The bytes of a page's first n sectors. -/
def pb (now : List (List Int)) (id : Int) : Nat → List Int
  | 0 => []
  | n + 1 => pb now id n ++ rd_L2 now (4 * id + n)
theorem pb_len {now : List (List Int)} {id : Int} (hl : ∀ l ∈ now, l.length = 64) (h0 : 0 ≤ id) : ∀ (n : Nat), 4 * id + n ≤ (now.length : Int) → (pb now id n).length = 64 * n
  | 0, _ => rfl
  | n + 1, h => by
    have := pb_len hl h0 n (by omega)
    have h2 := hl _ (rd_L2_mem (x := 4 * id + n) (ls := now) (by omega) (by omega))
    simp only [pb, List.length_append, this, h2]
    omega
theorem pb_by {now : List (List Int)} {id : Int} (hb : ∀ l ∈ now, By l) (h0 : 0 ≤ id) : ∀ (n : Nat), 4 * id + n ≤ (now.length : Int) → By (pb now id n)
  | 0, _ => By.nil
  | n + 1, h => (pb_by hb h0 n (by omega)).append (hb _ (rd_L2_mem (x := 4 * id + n) (ls := now) (by omega) (by omega)))
theorem nowL_by : ∀ (ps : List S185) (safe : List (List Int)), (∀ l ∈ safe, By l) → (∀ p ∈ ps, By p.f1) → ∀ l ∈ nowL safe ps, By l
  | [], _, h, _ => h
  | p :: r, safe, h, hp => by
    refine nowL_by r (safe.set p.f0.toNat p.f1) (fun l hl => ?_) (fun q hq => hp q (List.mem_cons_of_mem _ hq))
    rcases List.mem_or_eq_of_mem_set hl with h1 | h1
    · exact h l h1
    · rw [h1]; exact hp p List.mem_cons_self
def rpV (safe : List (List Int)) (ps : List S185) (id : Int) : Int × List Int × Bool := if okDisk safe ps ∧ 0 ≤ id ∧ id < (safe.length : Int) / 4 then decV id (pb (nowL safe ps) id 4) else (0, [], false)
theorem spec_view_l0 {now : List (List Int)} {id : Int} (hl : ∀ l ∈ now, l.length = 64) (hn : now.length ≤ 4096) (hb : ∀ l ∈ now, By l) (h0 : 0 ≤ id) (h1 : id < (now.length : Int) / 4) : ∀ (m n : Nat), n + m = 4 → Cv (fun k => spec_l2View_page.l0 k id (pb now id n) (n : Int) now) (decV id (pb now id 4))
  | 0, n, h => by
    obtain rfl : n = 4 := by omega
    refine Cv.step (fun k => spec_l2View_page.l0.eq_2 _ _ _ _ k) (Cv.neg (by decide) (Cv.bind (spec_dec (pb_by hb h0 4 (by omega))) (Cv.of rfl)))
  | m + 1, n, h => by
    have hw : wrap64 (wrap64 (4 * id) + (n : Int)) = 4 * id + n := by rw [w64 (n := 4 * id) (by omega) (by omega), w64 (by omega) (by omega)]
    have hmem := hl _ (rd_L2_mem (x := 4 * id + n) (ls := now) (by omega) (by omega))
    have hpl := pb_len hl h0 n (by omega)
    refine Cv.step (fun k => spec_l2View_page.l0.eq_2 _ _ _ _ k) (Cv.pos (by omega) ?_)
    rw [hw, w64 (n := (n : Int) + 1) (by omega) (by omega)]
    refine Cv.pos (by omega) (Cv.pos (by omega) (Cv.pos (by omega) ?_))
    exact spec_view_l0 hl hn hb h0 h1 m (n + 1) (by omega)
theorem sector_ok {safe : List (List Int)} {ps : List S185} (hok : okDisk safe ps) {x : Int} (h0 : 0 ≤ x) (h1 : x < (safe.length : Int)) : impl_sector.f safe ps x = some (rd_L2 (nowL safe ps) x, true) := by
  unfold impl_sector.f
  rw [if_pos ⟨h0, h1⟩]
  have hl := now_last (safe := safe) ps.length ps rfl hok.2.2.2.2 x h0 h1
  cases hm : lastM ps x with
  | none =>
    rw [hm] at hl
    dsimp only at hl ⊢
    rw [hl]
  | some i =>
    rw [hm] at hl
    dsimp only at hl ⊢
    rw [if_pos (lastM_range _ ps rfl x i hm), hl]
theorem acc_ok {safe : List (List Int)} {ps : List S185} (hok : okDisk safe ps) {id : Int} (h0 : 0 ≤ id) : ∀ (n : Nat), 4 * id + n ≤ (safe.length : Int) → accS safe ps id n = some (pb (nowL safe ps) id n)
  | 0, _ => rfl
  | n + 1, h => by
    have hn := nowL_length ps safe
    have hlen := nowL_len ps safe hok.2.2.2.1 (fun p hp => (hok.2.2.2.2 p hp).2.2)
    have hsz := hok.2.1
    have hpl := pb_len (now := nowL safe ps) hlen h0 n (by omega)
    have hmem := hlen _ (rd_L2_mem (x := 4 * id + n) (ls := nowL safe ps) (by omega) (by omega))
    unfold accS
    rw [acc_ok hok h0 n (by omega), Option.bind_some, sector_ok hok (by omega) (by omega), Option.bind_some, if_pos (by dsimp only; omega)]
    rfl
end Go.Proofs.Ytlopmffdebhpfaa.Pure

/-! ## PureFnExactBestSuper -/
namespace Go.Proofs.Ytlopmffdebhpfaa.Pure
open Go.RowKit Go.Proofs.Ytlopmffdebhpfaa.G Go.Proofs.YtlopmffdebhpfaaW.PrintWords Go.Proofs.YtlopmffdebhpfaaW.PrintLast Go.Proofs.YtlopmffdebhpfaaW.PrintMore
theorem spec_view {safe : List (List Int)} {ps : List S185} {id : Int} (hb0 : ∀ l ∈ safe, By l) (hb1 : ∀ p ∈ ps, By p.f1) (hok : okDisk safe ps) : Cv (fun k => spec_l2View_page.f k (nowL safe ps) id) (rpV safe ps id) := by
  have hn := nowL_length ps safe
  have hlen := nowL_len ps safe hok.2.2.2.1 (fun p hp => (hok.2.2.2.2 p hp).2.2)
  have hby := nowL_by ps safe hb0 hb1
  have hsz := hok.2.1
  have hj : ∀ (c : Bool), c = true → Cv (fun k => spec_l2View_page.j0 k id c (nowL safe ps)) (0, [], false) := fun c hc => Cv.step (fun k => spec_l2View_page.j0.eq_2 _ _ _ k) (Cv.pos hc (Cv.of rfl))
  unfold spec_l2View_page.f
  by_cases h0 : id < 0
  · have e : rpV safe ps id = (0, [], false) := if_neg (fun h => by omega)
    rw [e]
    exact Cv.pos h0 (hj _ rfl)
  refine Cv.neg h0 ?_
  rw [hn, w64 (n := (safe.length : Int) / 4) (by omega) (by omega)]
  by_cases h1 : id ≥ (safe.length : Int) / 4
  · have e : rpV safe ps id = (0, [], false) := if_neg (fun h => by omega)
    rw [e]
    exact hj _ (decide_eq_true h1)
  have e : rpV safe ps id = decV id (pb (nowL safe ps) id 4) := if_pos ⟨hok, by omega, by omega⟩
  rw [e, show decide (id ≥ (safe.length : Int) / 4) = false from decide_eq_false h1]
  exact Cv.step (fun k => spec_l2View_page.j0.eq_2 _ _ _ k) (Cv.neg (by decide) (spec_view_l0 hlen (by omega) hby (by omega) (by omega) 4 0 rfl))
theorem impl_parse {id : Int} {l : List Int} (hb : By l) : Cv (fun k => impl_parsePage.f k id l) (if l.length = 256 then (if 0 ≤ id ∧ id ≤ 1023 ∧ 1 ≤ rd l 8 ∧ rd l 8 ≤ 4 ∧ sizeOf2 l ≤ 240 then (if pageOf id.toNat (rd l 8).toNat (bodyOf l) = l then (0, id, rd l 8, sizeOf2 l, bodyOf l) else (2, 0, 0, 0, [])) else (2, 0, 0, 0, [])) else (1, 0, 0, 0, [])) := by
  have b8 := By_rd hb 8
  have b10 := By_rd hb 10
  have b11 := By_rd hb 11
  have hs0 : 0 ≤ sizeOf2 l := by unfold sizeOf2; omega
  unfold impl_parsePage.f
  by_cases hl : l.length = 256
  case neg =>
    rw [if_neg hl]
    exact Cv.neg hl (Cv.of rfl)
  rw [if_pos hl]
  refine Cv.pos hl ?_
  rw [mid2 hl]
  refine Cv.bind (num2 b10 b11) ?_
  rw [show rd l 10 + 256 * rd l 11 = sizeOf2 l from rfl, w64 (n := rd l 8) (by omega) (by omega)]
  refine Cv.bind (Cv.of (valid_eq _ _ _)) ?_
  by_cases hok : 0 ≤ id ∧ id ≤ 1023 ∧ 1 ≤ rd l 8 ∧ rd l 8 ≤ 4 ∧ sizeOf2 l ≤ 240
  case neg =>
    rw [if_neg hok]
    exact Cv.neg (by rw [decide_eq_true_eq]; exact hok) (Cv.of rfl)
  rw [if_pos hok]
  refine Cv.pos (decide_eq_true hok) (Cv.pos (by omega) ?_)
  rw [show (l.take (16 + sizeOf2 l).toNat).drop 16 = bodyOf l from rfl]
  have hbb : By (bodyOf l) := (hb.take _).drop _
  have hbl := bodyOf_length hl hs0 (by omega)
  have hp : Cv (fun k => impl_page_bytes.f k id (rd l 8) (sizeOf2 l) (bodyOf l)) (pageOf id.toNat (rd l 8).toNat (bodyOf l)) := by
    have h := page_bytes (id := id.toNat) (kind := (rd l 8).toNat) (body := bodyOf l) (by omega) hbb (by omega)
    rw [Int.toNat_of_nonneg hok.1, Int.toNat_of_nonneg b8.1, hbl] at h
    exact h
  refine Cv.bind hp ?_
  refine Cv.bind (v := decide (pageOf id.toNat (rd l 8).toNat (bodyOf l) = l)) (Cv.of ?_) ?_
  · unfold bytes_Equal.f
    rw [str_eq (pageOf_by _ _ hbb) hb]
  · by_cases he : pageOf id.toNat (rd l 8).toNat (bodyOf l) = l
    · rw [if_pos he]
      exact Cv.pos (decide_eq_true he) (Cv.of rfl)
    · rw [if_neg he]
      exact Cv.neg (by rw [decide_eq_true_eq]; exact he) (Cv.of rfl)
theorem parse_dec {id : Int} {l : List Int} (hb : By l) : ∃ v : Nat × Int × Int × Int × List Int, Cv (fun k => impl_parsePage.f k id l) v ∧ ((decV id l).2.2 = true → v.1 = 0 ∧ v.2.2.1 = (decV id l).1 ∧ v.2.2.2.2 = (decV id l).2.1) ∧ ((decV id l).2.2 = false → v.1 ≠ 0) := by
  refine ⟨_, impl_parse hb, ?_⟩
  by_cases h1 : l.length = 256
  case neg => rw [if_neg h1, decV_neg (fun h => h1 h.1)]; exact ⟨fun h => (by cases h), fun _ => by decide⟩
  rw [if_pos h1]
  by_cases h2 : 0 ≤ id ∧ id ≤ 1023 ∧ 1 ≤ rd l 8 ∧ rd l 8 ≤ 4 ∧ sizeOf2 l ≤ 240
  case neg => rw [if_neg h2, decV_neg (fun h => h2 ⟨h.2.2.1, h.2.2.2.1, h.2.2.2.2.1, h.2.2.2.2.2.1, h.2.1⟩)]; exact ⟨fun h => (by cases h), fun _ => by decide⟩
  rw [if_pos h2]
  by_cases h3 : pageOf id.toNat (rd l 8).toNat (bodyOf l) = l
  case neg => rw [if_neg h3, decV_neg (fun h => h3 h.2.2.2.2.2.2)]; exact ⟨fun h => (by cases h), fun _ => by decide⟩
  rw [if_pos h3, decV_pos ⟨h1, h2.2.2.2.2, h2.1, h2.2.1, h2.2.2.1, h2.2.2.2.1, h3⟩]
  exact ⟨fun _ => ⟨rfl, rfl, rfl⟩, fun h => by cases h⟩
theorem decV_by {id : Int} {l : List Int} (hb : By l) : By (decV id l).2.1 := by
  unfold decV
  split
  · exact (hb.take _).drop _
  · exact By.nil
theorem rpV_by {safe : List (List Int)} {ps : List S185} {id : Int} (hb0 : ∀ l ∈ safe, By l) (hb1 : ∀ p ∈ ps, By p.f1) : By (rpV safe ps id).2.1 := by
  unfold rpV
  split
  · rename_i h
    exact decV_by (pb_by (nowL_by ps safe hb0 hb1) h.2.1 4 (by rw [nowL_length]; omega))
  · exact By.nil
theorem dpage_rp {safe : List (List Int)} {ps : List S185} {id : Int} (hb0 : ∀ l ∈ safe, By l) (hb1 : ∀ p ∈ ps, By p.f1) (hok : okDisk safe ps) : ∃ v : Nat × Int × Int × Int × List Int, Cv (fun k => impl_dpage.f k safe ps id) v ∧ ((rpV safe ps id).2.2 = true → v.1 = 0 ∧ v.2.2.1 = (rpV safe ps id).1 ∧ v.2.2.2.2 = (rpV safe ps id).2.1) ∧ ((rpV safe ps id).2.2 = false → v.1 ≠ 0) := by
  have hn := nowL_length ps safe
  have hsz := hok.2.1
  by_cases hr : 0 ≤ id ∧ id < (safe.length : Int) / 4
  case neg =>
    have e : rpV safe ps id = (0, [], false) := if_neg (fun h => hr h.2)
    rw [e]
    refine ⟨(1, 0, 0, 0, []), (Cv.of (o := some (1, 0, 0, 0, [])) rfl).congr (fun k => ?_), fun h => (by cases h), fun _ => by decide⟩
    unfold impl_dpage.f
    rw [if_neg hr]
  have e : rpV safe ps id = decV id (pb (nowL safe ps) id 4) := if_pos ⟨hok, hr⟩
  rw [e]
  have hby : By (pb (nowL safe ps) id 4) := pb_by (nowL_by ps safe hb0 hb1) hr.1 4 (by omega)
  obtain ⟨v, hv, h2⟩ := parse_dec (id := id) hby
  refine ⟨v, hv.congr (fun k => ?_), h2⟩
  unfold impl_dpage.f
  rw [if_pos hr, acc_ok hok hr.1 4 (by omega), Option.bind_some]
/-- The superblock that a page holds, if it holds one. -/
def quad (b : List Int) : Int × Int × Int × Int := (leV (b.take 7), leV ((b.take 12).drop 8), leV ((b.take 16).drop 12), leV ((b.take 20).drop 16))
def supP (n : Int) (p : Int × List Int × Bool) (id : Int) : Prop := p.2.2 = true ∧ p.1 = 1 ∧ p.2.1.length = 20 ∧ rd p.2.1 7 = 0 ∧ okSuper (quad p.2.1).1 (quad p.2.1).2.1 (quad p.2.1).2.2.1 (quad p.2.1).2.2.2 = true ∧ Int.tmod (quad p.2.1).1 2 = id ∧ (quad p.2.1).2.2.1 ≤ n
instance (n : Int) (p : Int × List Int × Bool) (id : Int) : Decidable (supP n p id) := by unfold supP; infer_instance
theorem spec_at {safe : List (List Int)} {ps : List S185} {id : Int} (hb0 : ∀ l ∈ safe, By l) (hb1 : ∀ p ∈ ps, By p.f1) (hok : okDisk safe ps) : Cv (fun k => spec_l2SuperAt.f k (nowL safe ps) id) (if supP ((safe.length : Int) / 4) (rpV safe ps id) id then (quad (rpV safe ps id).2.1, true) else ((0, 0, 0, 0), false)) := by
  have hv := spec_view (id := id) hb0 hb1 hok
  have hby := rpV_by (id := id) hb0 hb1
  have hn := nowL_length ps safe
  generalize rpV safe ps id = p at hv hby
  have hz : ¬ supP ((safe.length : Int) / 4) p id → (if supP ((safe.length : Int) / 4) p id then (quad p.2.1, true) else ((0, 0, 0, 0), false)) = ((0, 0, 0, 0), false) := fun h => if_neg h
  have hy : supP ((safe.length : Int) / 4) p id → (if supP ((safe.length : Int) / 4) p id then (quad p.2.1, true) else ((0, 0, 0, 0), false)) = (quad p.2.1, true) := fun h => if_pos h
  unfold spec_l2SuperAt.f
  refine Cv.bind hv ?_
  rw [hn]
  by_cases h1 : p.2.2 = true
  case neg => rw [hz (fun h => h1 h.1)]; exact Cv.neg h1 (Cv.of rfl)
  refine Cv.pos h1 ?_
  by_cases h2 : p.1 = 1
  case neg => rw [hz (fun h => h2 h.2.1)]; exact Cv.neg h2 (Cv.of rfl)
  refine Cv.pos h2 ?_
  by_cases h3 : p.2.1.length = 20
  case neg => rw [hz (fun h => h3 h.2.2.1)]; exact Cv.neg h3 (Cv.of rfl)
  refine Cv.pos h3 ?_
  by_cases h4 : rd p.2.1 7 = 0
  case neg => rw [hz (fun h => h4 h.2.2.2.1)]; exact Cv.neg h4 (Cv.of rfl)
  refine Cv.pos h4 ?_
  refine Cv.bind (lowV (hby.take _) (by rw [List.length_take]; omega)) (Cv.bind (lowV ((hby.take _).drop _) (by rw [List.length_drop, List.length_take]; omega)) (Cv.bind (lowV ((hby.take _).drop _) (by rw [List.length_drop, List.length_take]; omega)) (Cv.bind (lowV ((hby.take _).drop _) (by rw [List.length_drop, List.length_take]; omega)) (Cv.bind (Cv.of (spec_okSuper _ _ _ _)) ?_))))
  by_cases h5 : okSuper (leV (p.2.1.take 7)) (leV ((p.2.1.take 12).drop 8)) (leV ((p.2.1.take 16).drop 12)) (leV ((p.2.1.take 20).drop 16)) = true
  case neg => rw [hz (fun h => h5 h.2.2.2.2.1)]; exact Cv.neg h5 (Cv.of rfl)
  refine Cv.pos h5 ?_
  by_cases h6 : Int.tmod (leV (p.2.1.take 7)) 2 = id
  case neg => rw [hz (fun h => h6 h.2.2.2.2.2.1)]; exact Cv.neg h6 (Cv.of rfl)
  refine Cv.pos h6 ?_
  by_cases h7 : (safe.length : Int) / 4 < leV ((p.2.1.take 16).drop 12)
  case pos => rw [hz (fun h => by have := h.2.2.2.2.2.2; dsimp only [quad] at this; omega)]; exact Cv.pos h7 (Cv.of rfl)
  rw [hy ⟨h1, h2, h3, h4, h5, h6, Int.not_lt.1 h7⟩]
  exact Cv.neg h7 (Cv.of rfl)
theorem impl_step {safe : List (List Int)} {ps : List S185} {id : Int} {b : Int × Int × Int × Int} (hb0 : ∀ l ∈ safe, By l) (hb1 : ∀ p ∈ ps, By p.f1) (hok : okDisk safe ps) : Cv (fun k => bestStep k safe ps id b) (if supP ((safe.length : Int) / 4) (rpV safe ps id) id then (if b.1 < (quad (rpV safe ps id).2.1).1 then quad (rpV safe ps id).2.1 else b) else b) := by
  obtain ⟨v, hv, hp, hq⟩ := dpage_rp (id := id) hb0 hb1 hok
  have hby := rpV_by (id := id) hb0 hb1
  generalize rpV safe ps id = p at hp hq hby
  have hz : ¬ supP ((safe.length : Int) / 4) p id → (if supP ((safe.length : Int) / 4) p id then (if b.1 < (quad p.2.1).1 then quad p.2.1 else b) else b) = b := fun h => if_neg h
  have hy : supP ((safe.length : Int) / 4) p id → (if supP ((safe.length : Int) / 4) p id then (if b.1 < (quad p.2.1).1 then quad p.2.1 else b) else b) = (if b.1 < (quad p.2.1).1 then quad p.2.1 else b) := fun h => if_pos h
  unfold bestStep
  refine Cv.bind hv ?_
  by_cases h1 : p.2.2 = true
  case neg => rw [hz (fun h => h1 h.1)]; exact Cv.neg (hq (by simpa using h1)) (Cv.of rfl)
  obtain ⟨e1, e2, e3⟩ := hp h1
  rw [e2, e3]
  refine Cv.pos e1 ?_
  by_cases h2 : p.1 = 1
  case neg => rw [hz (fun h => h2 h.2.1)]; exact Cv.neg h2 (Cv.of rfl)
  refine Cv.pos h2 ?_
  by_cases h3 : p.2.1.length = 20
  case neg => rw [hz (fun h => h3 h.2.2.1)]; exact Cv.neg h3 (Cv.of rfl)
  refine Cv.pos h3 ?_
  have l8 : (p.2.1.take 8).length = 8 := by rw [List.length_take]; omega
  have r8 : rd (p.2.1.take 8) 7 = rd p.2.1 7 := by
    unfold rd
    rw [List.getD_eq_getElem?_getD, List.getD_eq_getElem?_getD, List.getElem?_take_of_lt (by decide)]
  have n8 := num8 (hby.take 8) l8
  rw [r8, List.take_take, show min 7 8 = 7 from rfl] at n8
  refine Cv.bind (numV (hby.take _) (by omega)) (Cv.bind (numV4 ((hby.take _).drop _) (by rw [List.length_drop, List.length_take]; omega)) (Cv.bind (numV4 ((hby.take _).drop _) (by rw [List.length_drop, List.length_take]; omega)) (Cv.bind (numV4 ((hby.take _).drop _) (by rw [List.length_drop, List.length_take]; omega)) ?_)))
  by_cases h4 : rd p.2.1 7 = 0
  case neg =>
    rw [hz (fun h => h4 h.2.2.2.1)]
    refine Cv.neg ?_ (Cv.of rfl)
    have := n8.2 h4
    unfold okSuper
    simp only [Bool.and_eq_true, decide_eq_true_eq]
    omega
  rw [n8.1 h4]
  by_cases h5 : okSuper (leV (p.2.1.take 7)) (leV ((p.2.1.take 12).drop 8)) (leV ((p.2.1.take 16).drop 12)) (leV ((p.2.1.take 20).drop 16)) = true
  case neg => rw [hz (fun h => h5 h.2.2.2.2.1)]; exact Cv.neg h5 (Cv.of rfl)
  refine Cv.pos h5 ?_
  by_cases h6 : Int.tmod (leV (p.2.1.take 7)) 2 = id
  case neg => rw [hz (fun h => h6 h.2.2.2.2.2.1)]; exact Cv.neg h6 (Cv.of rfl)
  refine Cv.pos h6 ?_
  by_cases h7 : leV ((p.2.1.take 16).drop 12) ≤ (safe.length : Int) / 4
  case neg => rw [hz (fun h => h7 h.2.2.2.2.2.2)]; exact Cv.neg h7 (Cv.of rfl)
  rw [hy ⟨h1, h2, h3, h4, h5, h6, h7⟩]
  refine Cv.pos h7 ?_
  by_cases h8 : b.1 < (quad p.2.1).1
  · rw [if_pos h8]; exact Cv.pos h8 (Cv.of rfl)
  · rw [if_neg h8]; exact Cv.neg h8 (Cv.of rfl)
theorem supP_gen {n : Int} {p : Int × List Int × Bool} {id : Int} (h : supP n p id) : 1 ≤ (quad p.2.1).1 := by
  have := h.2.2.2.2.1
  unfold okSuper at this
  simp only [Bool.and_eq_true, decide_eq_true_eq] at this
  exact this.1.1
theorem best_both {safe : List (List Int)} {ps : List S185} (hb0 : ∀ l ∈ safe, By l) (hb1 : ∀ p ∈ ps, By p.f1) : ∃ v, Cv (fun k => spec_BestSuper.f k safe ps) v ∧ Cv (fun k => impl_BestSuper.f k safe ps) v := by
  by_cases hok : okDisk safe ps
  case neg =>
    refine ⟨((0, 0, 0, 0), false), ?_, ?_⟩
    · unfold spec_BestSuper.f
      exact Cv.bind spec_ok (Cv.neg (by rw [decide_eq_true_eq]; exact hok) (Cv.of rfl))
    · unfold impl_BestSuper.f
      exact Cv.bind impl_ok (Cv.neg (by rw [decide_eq_true_eq]; exact hok) (Cv.of rfl))
  have s0 := spec_at (id := 0) hb0 hb1 hok
  have s1 := spec_at (id := 1) hb0 hb1 hok
  have i0 := impl_step (id := 0) (b := (0, 0, 0, 0)) hb0 hb1 hok
  have i1 := fun b => impl_step (id := 1) (b := b) hb0 hb1 hok
  have him : ∀ {b r : Int × Int × Int × Int}, Cv (fun k => bestStep k safe ps 0 (0, 0, 0, 0)) b → Cv (fun k => bestStep k safe ps 1 b) r → Cv (fun k => impl_BestSuper.f k safe ps) (r, decide (0 < r.1)) := by
    intro b r h0 h1
    unfold impl_BestSuper.f
    refine Cv.bind impl_ok (Cv.pos (decide_eq_true hok) (Cv.bind (v := r) ?_ (Cv.of rfl)))
    refine Cv.congr (f := fun k => (bestStep k safe ps 0 (0, 0, 0, 0)).bind fun b => bestStep k safe ps 1 b) (Cv.bind h0 h1) (fun k => ?_)
    unfold bestN
    unfold bestN
    unfold bestN
    rw [Option.bind_some]
    rfl
  have hsp : ∀ {p q : (Int × Int × Int × Int) × Bool} {r : (Int × Int × Int × Int) × Bool}, Cv (fun k => spec_l2SuperAt.f k (nowL safe ps) 0) p → Cv (fun k => spec_l2SuperAt.f k (nowL safe ps) 1) q → (if p.2 = true then (if q.2 = true then (if q.1.1 < p.1.1 then some (p.1, true) else some (q.1, q.2)) else some (p.1, true)) else some (q.1, q.2)) = some r → Cv (fun k => spec_BestSuper.f k safe ps) r := by
    intro p q r h0 h1 hr
    unfold spec_BestSuper.f
    exact Cv.bind spec_ok (Cv.pos (decide_eq_true hok) (Cv.bind (spec_now hok) (Cv.bind h0 (Cv.bind h1 (Cv.of hr)))))
  by_cases h0 : supP ((safe.length : Int) / 4) (rpV safe ps 0) 0
  · have g0 := supP_gen h0
    have p0 := h0.2.2.2.2.2.1
    rw [if_pos h0] at s0 i0
    rw [if_pos (show (0, 0, 0, 0).1 < (quad (rpV safe ps 0).2.1).1 by dsimp only; omega)] at i0
    generalize quad (rpV safe ps 0).2.1 = a at *
    have i1 := i1 a
    by_cases h1 : supP ((safe.length : Int) / 4) (rpV safe ps 1) 1
    · have g1 := supP_gen h1
      have p1 := h1.2.2.2.2.2.1
      rw [if_pos h1] at s1 i1
      generalize quad (rpV safe ps 1).2.1 = c at *
      rw [Int.tmod_eq_emod_of_nonneg (by omega)] at p0 p1
      by_cases hlt : c.1 < a.1
      · rw [if_neg (by omega)] at i1
        have := him i0 i1
        rw [decide_eq_true (by omega)] at this
        exact ⟨(a, true), hsp s0 s1 (by simp [hlt]), this⟩
      · rw [if_pos (by omega)] at i1
        have := him i0 i1
        rw [decide_eq_true (by omega)] at this
        exact ⟨(c, true), hsp s0 s1 (by simp [hlt]), this⟩
    · rw [if_neg h1] at s1 i1
      have := him i0 i1
      rw [decide_eq_true (by omega)] at this
      exact ⟨(a, true), hsp s0 s1 rfl, this⟩
  · rw [if_neg h0] at s0 i0
    have i1 := i1 (0, 0, 0, 0)
    by_cases h1 : supP ((safe.length : Int) / 4) (rpV safe ps 1) 1
    · have g1 := supP_gen h1
      rw [if_pos h1] at s1 i1
      generalize quad (rpV safe ps 1).2.1 = c at *
      rw [if_pos (show (0, 0, 0, 0).1 < c.1 by dsimp only; omega)] at i1
      have := him i0 i1
      rw [decide_eq_true (by omega)] at this
      exact ⟨(c, true), hsp s0 s1 rfl, this⟩
    · rw [if_neg h1] at s1 i1
      have := him i0 i1
      exact ⟨((0, 0, 0, 0), false), hsp s0 s1 rfl, this⟩
theorem eqSuper_self (a b c d : Int) : laws_eqSuper.f a b c d a b c d = some true := by
  unfold laws_eqSuper.f
  simp
theorem FnExactBestSuper (w : World) (o : ODisk w) : Calls Try.prog 11 #[o.v] w fun e w' => e = .returned (.bool true) ∧ Below w.heap.size w w' := by
  obtain ⟨A0, c0, A1, c1, l0, l1, hc0, hc1, hr0, hr1, hw0, hw1'⟩ := o
  have hw1 := fun q hq => (hw1' q hq).1
  show Calls Try.prog 11 #[.agg #[.slice A0 l0.length c0, .slice A1 l1.length c1]] w _
  obtain ⟨s, hs, h1, h2⟩ := szD (ls := l0) (ps := l1) (a := 1048576) (by decide) (by decide) (rows_len hr0) hr0.2.1 (pends_len hr1) hr1.2.1
  obtain ⟨k, hk⟩ := hs.get
  by_cases hneg : s < 0
  · exact laws_FnExactBestSuper.small k A0 c0 l0 A1 c1 l1 s w hr0 hc0 hr1 hc1 hk hneg
  have htot := h2 (by omega)
  have hl0 : ∀ l ∈ l0, l.length ≤ 1048576 := fun l hl => by have := le_totL hl; omega
  have hl1 : ∀ q ∈ l1, q.f1.length ≤ 1048576 := fun q hq => by have := le_totP4 hq; omega
  have hq1 : ∀ q ∈ l1.map cv, q.f1.length ≤ 1048576 := fun q hq => by
    obtain ⟨p, hp, rfl⟩ := List.mem_map.1 hq
    exact hl1 p hp
  have hb0 : ∀ l ∈ l0, By l := fun l hl => By.of_wf (hw0 l hl)
  have hb1 : ∀ q ∈ l1.map cv, By q.f1 := fun q hq => by
    obtain ⟨p, hp, rfl⟩ := List.mem_map.1 hq
    exact By.of_wf (hw1' p hp).2
  obtain ⟨⟨⟨r0, r1, r2, r3⟩, rb⟩, hspec, himpl⟩ := best_both (safe := l0) (ps := l1.map cv) hb0 hb1
  obtain ⟨k2, hk2⟩ := (toD (ls := l0) (ps := l1) (fun l hl => by have := hl0 l hl; omega) (by omega) (fun l hl => by have := hl1 l hl; omega) (by omega)).get
  obtain ⟨k3, hk3⟩ := hspec.get
  obtain ⟨k4, hk4⟩ := himpl.get
  obtain ⟨k6, hk6⟩ := (eqD (ls := l0) (ps := l1.map cv) (fun l hl => by have := hl0 l hl; omega) (by omega) (fun l hl => by have := hq1 l hl; omega) (by rw [List.length_map]; omega)).get
  refine laws_FnExactBestSuper.full k k2 k3 k4 k6 A0 c0 l0 A1 c1 l1 s l0 (l1.map cv) r0 r1 r2 r3 rb w hr0 hc0 hr1 hc1 hk hneg hk2 hk3 hk4 hk6 (eqSuper_self _ _ _ _) (fun p hp => ?_)
  obtain ⟨q, hq, rfl⟩ := List.mem_map.1 hp
  exact hw1 q hq
end Go.Proofs.Ytlopmffdebhpfaa.Pure

/-! ## LawFnExactBestSuper -/
namespace Go.Proofs.Ytlopmffdebhpfaa.fnExactBestSuper
open Go.ChangeShapes Go.WideShapes Go.ChangeAt Go.RowKit
open Go.ChangeMaps (open_string shut_string)
set_option linter.unusedVariables false
theorem own : ownKnob Try.prog.godebug = none := by kernel_rfl
theorem laidOut : laidOutB Try.prog = true := by kernel_rfl
set_option maxRecDepth 100000 in
theorem lifted (os : Os) (started : os.Started) (H : Type) (enc : TypeId × Value → H) :
    ReturnsInHanded {} Try.checked os 11 .any (Rows.fnExactBestSuperSpec.pre6 enc Try.prog Try.f11 Rows.fnExactBestSuperRow.domain false) (Rows.fnExactBestSuperSpec.post enc Try.prog Try.f11 false true false false) := by
  refine returnsInHanded_of_change_sized (C := Try.checked) own started (by kernel_rfl) Try.func11
    (ChangeSpec.witness6 (enc := enc) (C := Try.checked) false ⟨#[], #[.agg #[.slice none 0 0, .slice none 0 0]], []⟩ 8 (by kernel_rfl) (by kernel_rfl) (by kernel_rfl) (by kernel_rfl)) ?_
  intro W base args ds gs before hval0 hW hcnd hsz0 _
  have hval : ∀ (j : Nat) t v, Try.f11.params[j]? = some t → args[j]? = some v → Value.okWide Try.prog W .any base t v := hval0
  have hW' := hW
  obtain ⟨p, q, hA0, hV, rfl, hfz, hnd⟩ := hW
  have hA : DataW.TrodAll enc Try.prog W 0 (fun _ => true) true Try.f11.params.toList args.toList ds p := hA0
  rw [Try.params11] at hA hval
  obtain ⟨v0, vs0, d0, ds0, p0, q0, hargs, rfl, rfl, h0, r0⟩ := trodAll_cons hA
  obtain ⟨rfl, rfl, rfl⟩ := trodAll_nil r0
  obtain rfl : args = #[v0] := by cases args; simp_all
  obtain ⟨rfl, rfl⟩ := trodVars_none hV
  have k0 := h0
  have lt0 : ∀ x ∈ p0, x.block < W.heap.size := by obtain ⟨m, hm⟩ := k0; exact DataW.trod_lt m _ _ _ hm
  obtain ⟨o0, rfl⟩ := G.open_disk (hval 0 39 v0 rfl rfl) h0
  clear hA0 hval0 hsz0
  refine (Pure.FnExactBestSuper W o0).mono fun e W' ⟨he, bel⟩ => ?_
  subst he
  exact ⟨_, rfl, _, _, _, [], _, [], hW', trodAll_mk1 (shut_bool Try.underlying4 _), (trodAll_cons_mk (Below.trod laidOut (by kernel_rfl) (of_decide_eq_true (by kernel_rfl)) k0 bel lt0) trodAll_mk0), rfl, bel.frame _, fun h => by cases h⟩
theorem over : Rows.fnExactBestSuperRow.holds Try.pinned (OpenSpec.ofChange Rows.fnExactBestSuperSpec) :=
  OpenClaim.holds_of_wide 11 Try.f11 rfl rfl rfl rfl rfl rfl rfl ⟨rfl, rfl, rfl, rfl, rfl⟩ rfl rfl rfl rfl rfl (by kernel_rfl) Try.func11 (by kernel_rfl)
    (of_decide_eq_true (by kernel_rfl)) (by unfold Func.isWrapper; first | (rw [if_pos (by decide +kernel)]; kernel_rfl) | (rw [if_neg (by decide +kernel)]; exact ⟨rfl, rfl⟩))
    (fun os started H enc _ => lifted os started H enc)
theorem proved : Rows.FnExactBestSuperSaid := over
#print axioms proved
end Go.Proofs.Ytlopmffdebhpfaa.fnExactBestSuper
namespace Go.Proofs.Ytlopmffdebhpfaa
/-- The row, under a short name, for the claim. -/
theorem fnExactBestSuper_holds : Rows.FnExactBestSuperSaid := fnExactBestSuper.proved
end Go.Proofs.Ytlopmffdebhpfaa
