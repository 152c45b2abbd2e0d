/- The law FnExactReadPage is true of every argument: its row, out of the walk. Conditions: none beyond the given statement. -/
import Derived.Test.YtlopmffdebhpfaaK10b
import Derived.Test.YtlopmffdebhpfaaK10c
import Derived.Test.YtlopmffdebhpfaaK10a
import Derived.Stop.IfaceNil
import Derived.Lib.SmallJoins
import Derived.Test.YtlopmffdebhpfaaRows
import Derived.WalkKit
import Derived.ProofKit
import Derived.OpenShut
import Derived.ShutString
import Derived.ChangeOld
import Derived.Below
import Derived.SizedLaws
/-! ## Law5 -/
namespace Go.Proofs.Ytlopmffdebhpfaa.G
open Go.RowKit Go.Proofs.YtlopmffdebhpfaaW.PrintWords Go.Proofs.YtlopmffdebhpfaaW.PrintLast Go.Proofs.YtlopmffdebhpfaaW.PrintMore
open Go.Proofs.Ytlopmffdebhpfaa.Pure (marks marks_length mark_l0)
set_option linter.unusedVariables false
set_option linter.unusedSimpArgs false

theorem IsDisk_grown {w w1 : World} {base g : Nat} {P Q : Nat → Prop} {v0 v1 : Value} {r1 : List (List Int)} {r2 : List S185} (h : IsDisk w base P Q v0 v1 r1 r2) (hg : w.grownBy w1 (some g)) (hne : ∀ q, P q ∨ Q q → q ≠ g) : IsDisk w1 base P Q v0 v1 r1 r2 :=
  ⟨h.1, Kd.S_grown h.2.1 hg (fun q hq e => hne q (.inl hq) (Option.some.inj e)), Kd.S_grown h.2.2 hg (fun q hq e => hne q (.inr hq) (Option.some.inj e))⟩
/-- Its blocks are among those made between two worlds. -/
theorem IsDisk_between {w w1 : World} {base : Nat} {P Q : Nat → Prop} {v0 v1 : Value} {r1 : List (List Int)} {r2 : List S185} (h : IsDisk w1 w.heap.size P Q v0 v1 r1 r2) (hb : base ≤ w.heap.size) : ∃ P' Q', (∀ q, P' q ∨ Q' q → w.heap.size ≤ q ∧ q < w1.heap.size) ∧ IsDisk w1 base P' Q' v0 v1 r1 r2 :=
  ⟨fun q => P q ∧ w.heap.size ≤ q ∧ q < w1.heap.size, fun q => Q q ∧ w.heap.size ≤ q ∧ q < w1.heap.size, fun q hq => hq.elim (fun h => h.2) (fun h => h.2), fun q h1 h2 => h.1 q h1.1 h2.1,
    Kd.S_lower (Kd.S_mono (Kd.S_bound h.2.1) (fun q hq => ⟨hq.1, hq.2.1, hq.2.2.1⟩)) hb, Kd.S_lower (Kd.S_mono (Kd.S_bound h.2.2) (fun q hq => ⟨hq.1, hq.2.1, hq.2.2.1⟩)) hb⟩
theorem R_between {w w1 : World} {base : Nat} {v : Value} {xs : List Int} (h : Kd.R (Kd.int .u8) 5 w1 w.heap.size (fun _ => True) v xs) (hb : base ≤ w.heap.size) : Kd.R (Kd.int .u8) 5 w1 base (fun q => w.heap.size ≤ q ∧ q < w1.heap.size) v xs :=
  Kd.R_lower (Kd.R_mono (Kd.R_bound h) (fun q hq => ⟨hq.2.1, hq.2.2.1⟩)) hb
set_option maxHeartbeats 4000000 in
set_option maxRecDepth 100000 in
theorem laws_FnExactReadSector.small (k : Nat) (A0 : Option Addr) (c0 : Nat) (l0 : List (List Int)) (A1 : Option Addr) (c1 : Nat) (l1 : List S184) (x s : Int) (w : World) (hr0 : Kd.C (Kd.slice 5 (Kd.int .u8)) w A0 l0.length l0) (hc0 : l0.length ≤ c0) (hr1 : Kd.C k184 w A1 l1.length l1) (hc1 : l1.length ≤ c1) (hsz : laws_szDisk.f k l0 l1 1048576 = some s) (hs : s < 0) :
    Calls Try.prog 5 #[.agg #[.slice A0 l0.length c0, .slice A1 l1.length c1], .int .i64 x] w fun e w' => e = .returned (.bool true) ∧ Below w.heap.size w w' := by
  have hu39 := Try.underlying39
  have HR0 := Aside0.mk hr0
  have HR1 := Aside0.mk hr1
  have HC0 := Aside0.mk hc0
  have HC1 := Aside0.mk hc1
  have N0 := Aside0.mk hsz
  clear hr0 hr1 hc0 hc1 hsz
  go_enter Try.func5, Try.ntmps5
  go_wp2_with (first | ((with_reducible refine gate_dst (N := 2) rfl ?_); refine box_event ?hg (N := 2) ?hd (cs := #[.slice A0 l0.length c0, .slice A1 l1.length c1]) (t := 39) ?hr ?_; (case hd => rfl); (case hg => rfl); (case hr => first | (go_simp; done) | (go_simp; rfl)); intro gp hgr w1 hbox hbel; have BP := Aside0.mk hbox; have GP := Aside0.mk hgr; have HB := Aside0.mk hbel; have hp0 : w1.cell? ⟨gp, 0, none⟩ = some (.slice A0 l0.length c0) := (blk_cell hbox 0).trans rfl; have hp1 : w1.cell? ⟨gp, 1, none⟩ = some (.slice A1 l1.length c1) := (blk_cell hbox 1).trans rfl; clear hbox hbel hgr))
  refine (laws_szDisk.calls k A0 c0 l0 A1 c1 l1 1048576 s _ (Kd.C_below HR0.out HB.out) HC0.out (Kd.C_below HR1.out HB.out) HC1.out N0.out).mono ?_
  rintro e w2 ⟨rfl, hb⟩
  have HB2 := Aside0.mk (below_step HB.out hb)
  have d1 : decide (s < 0) = true := decide_eq_true hs
  go_wp2_with fail
  go_ret
  exact ⟨rfl, HB2.out⟩

def laws_FnExactReadSector.T10 : Bool × List (List Nat × List Nat) := (true, [([], []), ([], []), ([1], [1]), ([0, 2, 2], [0, 2]), ([3], [3])])
def laws_FnExactReadSector.B10 : List Nat := [0, 0, 2, 7, 15]
theorem laws_FnExactReadSector.tab10 : rtab .any (opsOf Try.f5 10) = laws_FnExactReadSector.T10 := by kernel_rfl
theorem laws_FnExactReadSector.bits10 : waitsOk laws_FnExactReadSector.T10.2 laws_FnExactReadSector.B10 = true := by kernel_rfl
set_option maxHeartbeats 8000000 in
set_option maxRecDepth 100000 in
theorem laws_FnExactReadSector.full (k k2 k3 k4 k5 k6 k7 : Nat) (A0 : Option Addr) (c0 : Nat) (l0 : List (List Int)) (A1 : Option Addr) (c1 : Nat) (l1 : List S184) (x s : Int) (d0 : List (List Int)) (d1 : List S185) (ra : List Int) (rb : Bool) (w : World) (hr0 : Kd.C (Kd.slice 5 (Kd.int .u8)) w A0 l0.length l0) (hc0 : l0.length ≤ c0) (hr1 : Kd.C k184 w A1 l1.length l1) (hc1 : l1.length ≤ c1)
    (hsz : laws_szDisk.f k l0 l1 1048576 = some s) (hs : ¬ s < 0) (hto : laws_toDisk.f k2 l0 l1 = some (d0, d1)) (hsp : spec_ReadSector.f k3 d0 d1 x = some (ra, rb)) (him : impl_ReadSector.f k4 d0 d1 x = some (ra, rb))
    (heq : laws_eqByteS.f k5 ra ra = some true) (hed : laws_eqDisk.f k6 d0 d1 d0 d1 = some true) (hsum : 1 + (totL d0 : Int) + totP d1 ≤ 4611686018427387904) (hra : (ra.length : Int) ≤ 4611686018427387904) (hhe : laws_heldByteS.f k7 (marks ra.length 1) 1 = some (1 + (ra.length : Int)))
    (hx : (Lit.int .i64 x).wf = true) (hwf : ∀ p ∈ d1, (Lit.int .i64 p.f0).wf = true) :
    Calls Try.prog 5 #[.agg #[.slice A0 l0.length c0, .slice A1 l1.length c1], .int .i64 x] w fun e w' => e = .returned (.bool true) ∧ Below w.heap.size w w' := by
  have hu39 := Try.underlying39
  have hu44 := Try.underlying44
  have HR0 := Aside0.mk hr0
  have HR1 := Aside0.mk hr1
  have HC0 := Aside0.mk hc0
  have HC1 := Aside0.mk hc1
  obtain ⟨km, hmk⟩ := markB_at (l := ra) (m := 1) (by omega) (by omega)
  have N0 := Aside0.mk hsz
  have N1 := Aside0.mk hto
  have N2 := Aside0.mk hsp
  have N3 := Aside0.mk him
  have N4 := Aside0.mk heq
  have N5 := Aside0.mk hed
  have N6 := Aside0.mk hmk
  have N7 := Aside0.mk hhe
  have NS := Aside0.mk hsum
  have NR := Aside0.mk hra
  have NX := Aside0.mk hx
  have NW := Aside0.mk hwf
  have e1 : decide (s < 0) = false := decide_eq_false hs
  have e2 : decide ((1 + (totL d0 : Int) + totP d1) < 0) = false := decide_eq_false (by omega)
  have e3 : decide ((1 + (ra.length : Int)) < 0) = false := decide_eq_false (by omega)
  clear hr0 hr1 hc0 hc1 hsz hto hsp him heq hed hmk hhe hsum hra hx hwf hs
  go_enter Try.func5, Try.ntmps5
  go_wp2_with (first | ((with_reducible refine gate_dst (N := 2) rfl ?_); refine box_event ?hg (N := 2) ?hd (cs := #[.slice A0 l0.length c0, .slice A1 l1.length c1]) (t := 39) ?hr ?_; (case hd => rfl); (case hg => rfl); (case hr => first | (go_simp; done) | (go_simp; rfl)); intro gp hgr w1 hbox hbel; have BP := Aside0.mk hbox; have GP := Aside0.mk hgr; have HB := Aside0.mk hbel; have hp0 : w1.cell? ⟨gp, 0, none⟩ = some (.slice A0 l0.length c0) := (blk_cell hbox 0).trans rfl; have hp1 : w1.cell? ⟨gp, 1, none⟩ = some (.slice A1 l1.length c1) := (blk_cell hbox 1).trans rfl; clear hbox hbel hgr))
  refine (laws_szDisk.calls k A0 c0 l0 A1 c1 l1 1048576 s _ (Kd.C_below HR0.out HB.out) HC0.out (Kd.C_below HR1.out HB.out) HC1.out N0.out).mono ?_
  rintro e w2 ⟨rfl, hb⟩
  clear hp0 hp1
  have BP := Aside0.mk (blk_below BP.out hb)
  have HB := Aside0.mk (below_step HB.out hb)
  have hp0 : w2.cell? ⟨gp, 0, none⟩ = some (.slice A0 l0.length c0) := (blk_cell BP.out 0).trans rfl
  have hp1 : w2.cell? ⟨gp, 1, none⟩ = some (.slice A1 l1.length c1) := (blk_cell BP.out 1).trans rfl
  clear hb
  go_wp2_with fail
  refine (laws_toDisk.apart k2 A0 c0 l0 A1 c1 l1 d0 d1 _ (Kd.C_below HR0.out HB.out) HC0.out (Kd.C_below HR1.out HB.out) HC1.out N1.out).mono ?_
  rintro e w3 ⟨v0, v1, P1, Q1, rfl, hd, hb⟩
  clear hp0 hp1
  have BP := Aside0.mk (blk_below BP.out hb)
  have HB := Aside0.mk (below_step HB.out hb)
  have hp0 : w3.cell? ⟨gp, 0, none⟩ = some (.slice A0 l0.length c0) := (blk_cell BP.out 0).trans rfl
  have hp1 : w3.cell? ⟨gp, 1, none⟩ = some (.slice A1 l1.length c1) := (blk_cell BP.out 1).trans rfl
  obtain ⟨Y0, yc0, rfl⟩ := Kd.S_slice hd.2.1
  obtain ⟨Y1, yc1, rfl⟩ := Kd.S_slice hd.2.2
  have HY := Aside0.mk hd
  clear hb hd
  go_wp2_with fail
  refine (spec_ReadSector.calls k3 Y0 yc0 d0 Y1 yc1 d1 x ra rb _ (Kd.S_reads' HY.out.2.1).2.2 (Kd.S_reads' HY.out.2.1).2.1 (Kd.S_reads' HY.out.2.2).2.2 (Kd.S_reads' HY.out.2.2).2.1 N2.out).mono ?_
  rintro e w4 ⟨vw, rfl, hv, hb⟩
  clear hp0 hp1
  have HW := Aside0.mk (R_between hv HB.out.size)
  have BP := Aside0.mk (blk_below BP.out hb)
  have HB := Aside0.mk (below_step HB.out hb)
  have hp0 : w4.cell? ⟨gp, 0, none⟩ = some (.slice A0 l0.length c0) := (blk_cell BP.out 0).trans rfl
  have hp1 : w4.cell? ⟨gp, 1, none⟩ = some (.slice A1 l1.length c1) := (blk_cell BP.out 1).trans rfl
  obtain ⟨Aw, cw, rfl⟩ := Kd.R_slice HW.out
  have HWN : Aside0 (∀ q, w3.heap.size ≤ q ∧ q < w4.heap.size → q < w4.heap.size) := ⟨fun q h => h.2⟩
  clear hb hv HY
  go_wp2_with fail
  refine (laws_toDisk.apart k2 A0 c0 l0 A1 c1 l1 d0 d1 _ (Kd.C_below HR0.out HB.out) HC0.out (Kd.C_below HR1.out HB.out) HC1.out N1.out).mono ?_
  rintro e w5 ⟨v0, v1, P1, Q1, rfl, hd, hb⟩
  clear hp0 hp1
  have H45R := Aside0.mk hb.size
  obtain ⟨P2, Q2, hPQ, hd2⟩ := IsDisk_between hd HB.out.size
  have GPL : Aside0 (gp < w4.heap.size) := ⟨blk_lt BP.out⟩
  have GPW : Aside0 (gp ≥ w.heap.size) := ⟨Nat.le_of_eq GP.out.symm⟩
  have BP := Aside0.mk (blk_below BP.out hb)
  have HB := Aside0.mk (below_step HB.out hb)
  have HW := Aside0.mk (Kd.R_below HW.out hb)
  have hp0 : w5.cell? ⟨gp, 0, none⟩ = some (.slice A0 l0.length c0) := (blk_cell BP.out 0).trans rfl
  have hp1 : w5.cell? ⟨gp, 1, none⟩ = some (.slice A1 l1.length c1) := (blk_cell BP.out 1).trans rfl
  obtain ⟨X0, xc0, rfl⟩ := Kd.S_slice hd2.2.1
  obtain ⟨X1, xc1, rfl⟩ := Kd.S_slice hd2.2.2
  have HX := Aside0.mk hd2
  have HPQ := Aside0.mk hPQ
  clear hb hd hd2 hPQ
  go_wp2_with (first | ((with_reducible refine gate_dst (N := 8) rfl ?_); refine box_event ?hg (N := 8) ?hd (cs := #[.slice none 0 0, .slice none 0 0]) (t := 44) ?hr ?_; (case hd => rfl); (case hg => rfl); (case hr => first | (go_simp; done) | (go_simp; rfl)); intro g8 hgr w6 hbox hbel; have B8a := Aside0.mk hbox; have G8 := Aside0.mk hgr; have hb := hbel; have G8W : Aside0 (w.heap.size ≤ g8) := ⟨by rw [hgr]; exact HB.out.size⟩; have H57a : Aside0 (w5.heap.size ≤ w6.heap.size) := ⟨hbel.size⟩; have H45 : Aside0 (w4.heap.size ≤ w5.heap.size) := ⟨by have h := GPL.out; have h2 := H45R.out; exact h2⟩; have NPG : Aside0 (gp ≠ g8) := ⟨by have := blk_lt BP.out; omega⟩; have BP := Aside0.mk (blk_below BP.out hb); have HB := Aside0.mk (below_step HB.out hb); have HW := Aside0.mk (Kd.R_below HW.out hb); have HX := Aside0.mk (IsDisk_below HX.out hb); clear hb; clear hbox hbel hgr) | ((with_reducible refine gate_ (.store 44 (.tmp 8) (.tmp 29)) rfl ?_); refine store_blk rfl rfl 44 (.tmp 8) (.tmp 29) rfl (off := 0) (u := .agg #[.slice X0 d0.length xc0, .slice X1 d1.length xc1]) #[.slice X0 d0.length xc0, .slice X1 d1.length xc1] rfl rfl B8a.out [.slice X0 d0.length xc0, .slice X1 d1.length xc1] rfl (by kernel_rfl) (Nat.le_of_ble_eq_true rfl) rfl rfl ?_; intro w7 hblk hgrw; have B8 := Aside0.mk hblk; have BP := Aside0.mk (blk_grown BP.out hgrw (fun e => NPG.out (Option.some.inj e))); have HB := Aside0.mk (HB.out.grown hgrw HB.out.size (by intro q hq; cases hq; exact G8W.out)); have HW := Aside0.mk (Kd.R_grown HW.out hgrw (fun q hq e => by have := hq.2; have := G8.out; have := H45.out; have := Option.some.inj e; omega)); have HX := Aside0.mk (IsDisk_grown HX.out hgrw (fun q hq e => by have := (HPQ.out q hq).2; have := G8.out; omega)); have H57 : Aside0 (w5.heap.size ≤ w7.heap.size) := ⟨Nat.le_trans H57a.out hgrw.size⟩; have H47 : Aside0 (w4.heap.size ≤ w7.heap.size) := ⟨Nat.le_trans H45.out (Nat.le_trans H57a.out hgrw.size)⟩; have hp0 : w7.cell? ⟨gp, 0, none⟩ = some (.slice A0 l0.length c0) := (blk_cell BP.out 0).trans rfl; have hp1 : w7.cell? ⟨gp, 1, none⟩ = some (.slice A1 l1.length c1) := (blk_cell BP.out 1).trans rfl; have hx0 : w7.cell? ⟨g8, 0, none⟩ = some (.slice X0 d0.length xc0) := (blk_cell B8.out 0).trans rfl; have hx1 : w7.cell? ⟨g8, 1, none⟩ = some (.slice X1 d1.length xc1) := (blk_cell B8.out 1).trans rfl; clear hblk hgrw))
  refine (impl_ReadSector.calls k4 X0 xc0 d0 X1 xc1 d1 x ra rb _ (Kd.S_reads' HX.out.2.1).2.2 (Kd.S_reads' HX.out.2.1).2.1 (Kd.S_reads' HX.out.2.2).2.2 (Kd.S_reads' HX.out.2.2).2.1 NX.out NW.out N3.out).mono ?_
  rintro e w8 ⟨vg, rfl, hv, hb⟩
  clear hp0 hp1 hx0 hx1
  have HG := Aside0.mk (R_between hv HB.out.size)
  have G8L : Aside0 (g8 < w7.heap.size) := ⟨blk_lt B8.out⟩
  have BP := Aside0.mk (blk_below BP.out hb)
  have HB := Aside0.mk (below_step HB.out hb)
  have HW := Aside0.mk (Kd.R_below HW.out hb)
  have B8 := Aside0.mk (blk_below B8.out hb)
  have HX := Aside0.mk (IsDisk_below HX.out hb)
  obtain ⟨Ag, cg, rfl⟩ := Kd.R_slice HG.out
  clear hb hv
  go_wp2_with fail
  refine (laws_eqByteS.calls k5 Ag cg ra Aw cw ra true _ (Kd.R_reads' HG.out).2.2 (Kd.R_reads' HG.out).2.1 (Kd.R_reads' HW.out).2.2 (Kd.R_reads' HW.out).2.1 N4.out).mono ?_
  rintro e w9 ⟨rfl, hdr⟩
  have hb := hdr.below
  have BP := Aside0.mk (blk_below BP.out hb)
  have HB := Aside0.mk (below_step HB.out hb)
  have HW := Aside0.mk (Kd.R_below HW.out hb)
  have B8 := Aside0.mk (blk_below B8.out hb)
  have HX := Aside0.mk (IsDisk_below HX.out hb)
  have HG := Aside0.mk (Kd.R_below HG.out hb)
  clear hb hdr
  go_wp2_with fail
  refine start_ (n := 5) (S := fun w' => w'.heap[gp]? = some (.cells #[.slice A0 l0.length c0, .slice A1 l1.length c1] 39 (0, 0)) ∧ w'.heap[g8]? = some (.cells #[.slice X0 d0.length xc0, .slice X1 d1.length xc1] 44 (0, 0))) (ds := []) #[false, false, false, false, false] (by kernel_rfl) rfl rfl (⟨blk_drew BP.out, blk_drew B8.out⟩) (fun hHeld => ?_); refine with_tabW laws_FnExactReadSector.tab10 laws_FnExactReadSector.bits10 (fun HT_ HW_ => ?_)
  have HB := Aside0.mk (below_drew1 HB.out)
  have HW := Aside0.mk (Kd.R_drew HW.out)
  have HG := Aside0.mk (Kd.R_drew HG.out)
  have HX := Aside0.mk (show IsDisk w9.drew w.heap.size P2 Q2 (.slice X0 d0.length xc0) (.slice X1 d1.length xc1) d0 d1 from ⟨HX.out.1, Kd.S_drew HX.out.2.1, Kd.S_drew HX.out.2.2⟩)
  refine take_ (i := 0) (N := some 45) (v := ?_) (a' := ?_) #[true, false, false, false, false] rfl rfl (take_ofW HT_.out HW_.out (by kernel_rfl)) (fun _ _ _ h => h) (Or.inl ⟨by rfl, ?_⟩) hHeld ?_ ?_
  rotate_left
  · intro w' s0
    have hx0 : w'.cell? ⟨g8, 0, none⟩ = some (.slice X0 d0.length xc0) := (blk_cell s0.2 0).trans rfl
    have hx1 : w'.cell? ⟨g8, 1, none⟩ = some (.slice X1 d1.length xc1) := (blk_cell s0.2 1).trans rfl
    clear s0
    go_simp
    with_reducible rfl
  rotate_left
  · simp only [Act.put, List.setIfInBounds_toArray, List.set_cons_zero, List.set_cons_succ, i64_w, i32_w]
    rfl
  refine take_ (i := 1) (N := some 46) (v := ?_) (a' := ?_) #[true, true, false, false, false] rfl rfl (take_ofW HT_.out HW_.out (by kernel_rfl)) (fun _ _ _ h => h) (Or.inl ⟨by rfl, ?_⟩) hHeld ?_ ?_
  rotate_left
  · intro w' s0
    have hp0 : w'.cell? ⟨gp, 0, none⟩ = some (.slice A0 l0.length c0) := (blk_cell s0.1 0).trans rfl
    have hp1 : w'.cell? ⟨gp, 1, none⟩ = some (.slice A1 l1.length c1) := (blk_cell s0.1 1).trans rfl
    clear s0
    go_simp
    with_reducible rfl
  rotate_left
  · simp only [Act.put, List.setIfInBounds_toArray, List.set_cons_zero, List.set_cons_succ, i64_w, i32_w]
    rfl
  refine one_ (i := 2) (N := some 47) #[true, true, true, false, false] rfl rfl (one_of HT_.out (by kernel_rfl)) (by decide) (fun K hK => ?_)
  refine goes_ Try.func26 (by kernel_rfl) rfl #[.agg #[.slice A0 l0.length c0, .slice A1 l1.length c1]] (by rfl) rfl rfl (by first | rfl | (simp only [List.map_toArray, List.map_cons, List.map_nil]; first | done | rfl)) ?_
  refine (laws_toDisk.apart k2 A0 c0 l0 A1 c1 l1 d0 d1 _ (Kd.C_below HR0.out HB.out) HC0.out (Kd.C_below HR1.out HB.out) HC1.out N1.out).mono ?_
  rintro e w10 ⟨v0, v1, P3, Q3, rfl, hd, hb⟩
  refine ⟨_, rfl, ?_⟩
  have BP := Aside0.mk (blk_below hHeld.1 hb)
  have B8 := Aside0.mk (blk_below hHeld.2 hb)
  have HB := Aside0.mk (below_step HB.out hb)
  have HW := Aside0.mk (Kd.R_below HW.out hb)
  have HG := Aside0.mk (Kd.R_below HG.out hb)
  have HX := Aside0.mk (IsDisk_below HX.out hb)
  obtain ⟨Z0, zc0, rfl⟩ := Kd.S_slice hd.2.1
  obtain ⟨Z1, zc1, rfl⟩ := Kd.S_slice hd.2.2
  have HZ := Aside0.mk hd
  clear hb hd hHeld
  refine hK.out _ _ (⟨BP.out, B8.out⟩) (fun hHeld => ?_)
  clear hK K
  refine norm_ (a' := ?_) ?_ ?_
  rotate_left
  · show Act.put _ (some 47) _ = _
    simp only [Act.put, List.setIfInBounds_toArray, List.set_cons_zero, List.set_cons_succ, i64_w, i32_w]
    rfl
  refine one_ (i := 3) (N := some 48) #[true, true, true, true, false] rfl rfl (one_of HT_.out (by kernel_rfl)) (by decide) (fun K hK => ?_)
  refine goes_ Try.func28 (by kernel_rfl) rfl #[.agg #[.slice X0 d0.length xc0, .slice X1 d1.length xc1], .agg #[.slice Z0 d0.length zc0, .slice Z1 d1.length zc1]] (by rfl) rfl rfl (by first | rfl | (simp only [List.map_toArray, List.map_cons, List.map_nil]; first | done | rfl)) ?_
  refine (laws_eqDisk.calls k6 X0 xc0 d0 X1 xc1 d1 Z0 zc0 d0 Z1 zc1 d1 true _ (Kd.S_reads' HX.out.2.1).2.2 (Kd.S_reads' HX.out.2.1).2.1 (Kd.S_reads' HX.out.2.2).2.2 (Kd.S_reads' HX.out.2.2).2.1 (Kd.S_reads' HZ.out.2.1).2.2 (Kd.S_reads' HZ.out.2.1).2.1 (Kd.S_reads' HZ.out.2.2).2.2 (Kd.S_reads' HZ.out.2.2).2.1 N5.out).mono ?_
  rintro e w11 ⟨rfl, hb⟩
  refine ⟨_, rfl, ?_⟩
  have BP := Aside0.mk (blk_below hHeld.1 hb)
  have B8 := Aside0.mk (blk_below hHeld.2 hb)
  have HB := Aside0.mk (below_step HB.out hb)
  have HW := Aside0.mk (Kd.R_below HW.out hb)
  have HG := Aside0.mk (Kd.R_below HG.out hb)
  have HX := Aside0.mk (IsDisk_below HX.out hb)
  clear hb hHeld HZ
  refine hK.out _ _ (⟨BP.out, B8.out⟩) (fun hHeld => ?_)
  clear hK K
  refine norm_ (a' := ?_) ?_ ?_
  rotate_left
  · show Act.put _ (some 48) _ = _
    simp only [Act.put, List.setIfInBounds_toArray, List.set_cons_zero, List.set_cons_succ, i64_w, i32_w]
    rfl
  refine pure_ (i := 4) (N := some 49) (v := ?_) (a' := ?_) #[true, true, true, true, true] rfl rfl (any_of HT_.out (by kernel_rfl)) (fun _ _ _ h => h) (Or.inl ⟨by rfl, ?_⟩) ?_ ?_
  rotate_left
  · intro w'
    go_simp
    with_reducible rfl
  rotate_left
  · simp only [Act.put, List.setIfInBounds_toArray, List.set_cons_zero, List.set_cons_succ, i64_w, i32_w]
    rfl
  refine done_ (done_of HT_.out (by kernel_rfl)) ?_
  try clear hHeld
  have hx0 : w11.cell? ⟨g8, 0, none⟩ = some (.slice X0 d0.length xc0) := (blk_cell B8.out 0).trans rfl
  have hx1 : w11.cell? ⟨g8, 1, none⟩ = some (.slice X1 d1.length xc1) := (blk_cell B8.out 1).trans rfl
  go_wp2_with fail
  refine (laws_markDisk.calls P2 Q2 (.slice X0 d0.length xc0) (.slice X1 d1.length xc1) d0 d1 1 w _ HB.out HX.out (by decide) NS.out).mono ?_
  rintro e w12 ⟨rfl, _, hb, hk⟩
  clear hx0 hx1
  have BP := Aside0.mk ((hk.2 gp (blk_lt BP.out) (fun h => by have := (HPQ.out gp h).1; have := GPL.out; omega)).trans BP.out)
  have HW := Aside0.mk (Kd.R_step HW.out (w1 := w12) (fun q hq hlt => hk.2 q hlt (fun h => by have := (HPQ.out q h).1; omega)))
  have HG := Aside0.mk (Kd.R_step HG.out (w1 := w12) (fun q hq hlt => hk.2 q hlt (fun h => by have := (HPQ.out q h).2; have := H57.out; omega)))
  have HB := Aside0.mk hb
  clear hb hk HX B8
  go_wp2_with fail
  refine (laws_eqByteS.calls k5 Ag cg ra Aw cw ra true _ (Kd.R_reads' HG.out).2.2 (Kd.R_reads' HG.out).2.1 (Kd.R_reads' HW.out).2.2 (Kd.R_reads' HW.out).2.1 N4.out).mono ?_
  rintro e w13 ⟨rfl, hdr⟩
  have hb := hdr.below
  have BP := Aside0.mk (blk_below BP.out hb)
  have HB := Aside0.mk (below_step HB.out hb)
  have HW := Aside0.mk (Kd.R_below HW.out hb)
  have HG := Aside0.mk (Kd.R_below HG.out hb)
  clear hb hdr
  go_wp2_with fail
  refine (laws_markByteS.calls km (fun k_ => some k_ = (Value.slice Ag ra.length cg).ownBlock) (.slice Ag ra.length cg) ra 1 _ _ w _ HB.out (Kd.R_tight rfl HG.out) N6.out).mono ?_
  rintro e w14 ⟨rfl, hv, hb, hk⟩
  have BP := Aside0.mk ((hk.2 gp (blk_lt BP.out) (fun h => by have := (HG.out.1 gp h.symm).1; have := GPL.out; have := H47.out; omega)).trans BP.out)
  have HW := Aside0.mk (Kd.R_step HW.out (w1 := w14) (fun q hq hlt => hk.2 q hlt (fun h => by have := (HG.out.1 q h.symm).1; have := hq.2; have := H47.out; omega)))
  have HB := Aside0.mk hb
  have HM := Aside0.mk hv
  clear hb hk hv HG
  have hml : (marks ra.length 1).length = ra.length := marks_length _ _
  have HC14 : Aside0 (Kd.C (Kd.int .u8) w14 Ag (marks ra.length 1).length (marks ra.length 1)) := ⟨(Kd.R_reads' HM.out).2.2⟩
  have HL14 : Aside0 ((marks ra.length 1).length ≤ cg) := ⟨by rw [hml]; exact (Kd.R_reads' HM.out).2.1⟩
  have HML := Aside0.mk hml
  clear hml HM
  go_wp2_with fail
  have hheld := laws_heldByteS.calls k7 Ag cg (marks ra.length 1) 1 (1 + (ra.length : Int)) w14 HC14.out HL14.out N7.out
  rw [HML.out] at hheld
  refine hheld.mono ?_
  clear hheld
  rintro e w15 ⟨rfl, hdr⟩
  have hb := hdr.below
  have BP := Aside0.mk (blk_below BP.out hb)
  have HB := Aside0.mk (below_step HB.out hb)
  have HW := Aside0.mk (Kd.R_below HW.out hb)
  have hp0 : w15.cell? ⟨gp, 0, none⟩ = some (.slice A0 l0.length c0) := (blk_cell BP.out 0).trans rfl
  have hp1 : w15.cell? ⟨gp, 1, none⟩ = some (.slice A1 l1.length c1) := (blk_cell BP.out 1).trans rfl
  clear hb hdr HC14 HL14
  have e4 : ((1 + (ra.length : Int)) != (1 + (ra.length : Int))) = false := by simp
  go_wp2_with fail
  refine (laws_toDisk.apart k2 A0 c0 l0 A1 c1 l1 d0 d1 _ (Kd.C_below HR0.out HB.out) HC0.out (Kd.C_below HR1.out HB.out) HC1.out N1.out).mono ?_
  rintro e w16 ⟨v0, v1, P3, Q3, rfl, hd, hb⟩
  clear hp0 hp1
  have BP := Aside0.mk (blk_below BP.out hb)
  have HB := Aside0.mk (below_step HB.out hb)
  have HW := Aside0.mk (Kd.R_below HW.out hb)
  obtain ⟨Z0, zc0, rfl⟩ := Kd.S_slice hd.2.1
  obtain ⟨Z1, zc1, rfl⟩ := Kd.S_slice hd.2.2
  have HZ := Aside0.mk hd
  clear hb hd
  go_wp2_with fail
  refine (impl_ReadSector.calls k4 Z0 zc0 d0 Z1 zc1 d1 x ra rb _ (Kd.S_reads' HZ.out.2.1).2.2 (Kd.S_reads' HZ.out.2.1).2.1 (Kd.S_reads' HZ.out.2.2).2.2 (Kd.S_reads' HZ.out.2.2).2.1 NX.out NW.out N3.out).mono ?_
  rintro e w17 ⟨vh, rfl, hv, hb⟩
  have BP := Aside0.mk (blk_below BP.out hb)
  have HB := Aside0.mk (below_step HB.out hb)
  have HW := Aside0.mk (Kd.R_below HW.out hb)
  obtain ⟨Ah, ch, rfl⟩ := Kd.R_slice hv
  have HH := Aside0.mk hv
  clear hb hv HZ
  go_wp2_with fail
  refine (laws_eqByteS.calls k5 Ah ch ra Aw cw ra true _ (Kd.R_reads' HH.out).2.2 (Kd.R_reads' HH.out).2.1 (Kd.R_reads' HW.out).2.2 (Kd.R_reads' HW.out).2.1 N4.out).mono ?_
  rintro e w18 ⟨rfl, hdr⟩
  have hb := hdr.below
  have BP := Aside0.mk (blk_below BP.out hb)
  have HB := Aside0.mk (below_step HB.out hb)
  clear hb hdr
  go_wp2_with fail
  go_ret
  exact ⟨rfl, HB.out⟩
end Go.Proofs.Ytlopmffdebhpfaa.G

/-! ## G154 -/
namespace Go.Proofs.Ytlopmffdebhpfaa.G
open Go.RowKit Go.Proofs.YtlopmffdebhpfaaW.PrintWords Go.Proofs.YtlopmffdebhpfaaW.PrintLast Go.Proofs.YtlopmffdebhpfaaW.PrintMore
attribute [local go_sem] max2_int min2_int max_two min_two max_three min_three max_four min_four
set_option linter.unusedVariables false
set_option linter.unusedSimpArgs false

/-! ### impl_Disk_pages: function 154 -/
def impl_Disk_pages.f (l0_0 : List (List Int)) (l0_1 : List (S185)) : Option (Int) := some (wrap64 ((l0_0.length : Int) / 4))
set_option maxHeartbeats 8000000 in
set_option maxRecDepth 100000 in
theorem impl_Disk_pages.calls (A0_0 : Option Addr) (c0_0 : Nat) (l0_0 : List (List Int)) (A0_1 : Option Addr) (c0_1 : Nat) (l0_1 : List (S185)) (r : Int) (w : World) (hr0_0 : Kd.C (Kd.slice 5 (Kd.int .u8)) w A0_0 l0_0.length l0_0) (hc0_0 : l0_0.length ≤ c0_0) (hr0_1 : Kd.C k185 w A0_1 l0_1.length l0_1) (hc0_1 : l0_1.length ≤ c0_1) (h : impl_Disk_pages.f l0_0 l0_1 = some r) :
    Calls Try.prog 154 #[.agg #[.slice A0_0 l0_0.length c0_0, .slice A0_1 l0_1.length c0_1]] w fun e w' => e = .returned (.int .i64 r) ∧ Below w.heap.size w w' := by
  have hu44 := Try.underlying44
  have HR0_0 := Aside0.mk hr0_0
  have HC0_0 := Aside0.mk hc0_0
  clear hr0_0 hc0_0
  have HR0_1 := Aside0.mk hr0_1
  have HC0_1 := Aside0.mk hc0_1
  clear hr0_1 hc0_1
  have HB := Aside0.mk (Below.refl w.heap.size w)
  have H : (some (wrap64 ((l0_0.length : Int) / 4))) = some r := h
  clear h
  obtain rfl := Option.some.inj H
  go_enter Try.func154, Try.ntmps154
  go_wp2_with (first | ((with_reducible refine gate_dst (N := 1) rfl ?_); refine box_event ?hg (N := 1) ?hd (cs := #[.slice A0_0 l0_0.length c0_0, .slice A0_1 l0_1.length c0_1]) (t := 44) ?hr ?_; (case hd => rfl); (case hg => rfl); (case hr => first | (go_simp; done) | (go_simp; rfl)); intro gb762 hg w2 hbox hb; have n0_ := Aside0.mk (below_step (by repeat (first | (with_reducible first | exact HB.out | apply below_alloc | apply pw_below_drewN | apply below_drew1) | exact HB.out)) hb); have n1_ := Aside0.mk (hbox); have n2_ := Aside0.mk ((by rw [hg]; exact (below_size (by repeat (first | (with_reducible first | exact HB.out | apply below_alloc | apply pw_below_drewN | apply below_drew1) | exact HB.out))) : w.heap.size ≤ gb762)); have n3_ := Aside0.mk ((by rw [hg]; exact (below_size (by repeat (first | (with_reducible first | exact HB.out | apply below_alloc | apply pw_below_drewN | apply below_drew1) | exact HB.out))) : w.heap.size ≤ gb762)); clear HB; have HB := n0_; have BK762 := n1_; have GW762 := n2_; have GE762 := n3_; clear n0_ n1_ n2_ n3_; clear hb hbox hg; have hcz3_0 : w2.cell? ⟨gb762, 0, none⟩ = some (.slice A0_0 l0_0.length c0_0) := (blk_cell BK762.out 0).trans rfl; have hcz3_1 : w2.cell? ⟨gb762, 1, none⟩ = some (.slice A0_1 l0_1.length c0_1) := (blk_cell BK762.out 1).trans rfl; have hfz3_0 := blk_frozen BK762.out 0; have hfz3_1 := blk_frozen BK762.out 1))
  go_ret
  exact ⟨by first | rfl | (simp [errW_none, errW_some] <;> rfl) | (simp [*, errW_none, errW_some] <;> rfl), by repeat (first | (with_reducible first | exact HB.out | apply below_alloc | apply pw_below_drewN | apply below_drew1 | refine below_set ?_ GE762.out) | exact HB.out)⟩

end Go.Proofs.Ytlopmffdebhpfaa.G

/-! ## DPage -/
namespace Go.Proofs.Ytlopmffdebhpfaa.G
open Go.RowKit Go.Proofs.YtlopmffdebhpfaaW.PrintWords Go.Proofs.YtlopmffdebhpfaaW.PrintLast Go.Proofs.YtlopmffdebhpfaaW.PrintMore
set_option linter.unusedVariables false
set_option linter.unusedSimpArgs false

theorem F_of_R {w : World} {base e : Nat} {ok : Nat → Prop} {A : Option Addr} {n c : Nat} {xs : List Int} (h : Kd.R (Kd.int .u8) e w base ok (.slice A n c) xs) : Kd.F (Kd.int .u8) w ok A xs.length xs := by
  rcases Nat.eq_zero_or_pos xs.length with h0 | hp
  · obtain rfl := List.eq_nil_of_length_eq_zero h0
    intro W' _
    exact ⟨rfl, Nat.zero_le _, fun h => absurd h (Nat.lt_irrefl 0)⟩
  · obtain ⟨g, cap, ev, _⟩ := Kd.R_form h hp
    injection ev with ev1 _ _
    subst ev1
    have hC := (Kd.R_reads' h).2.2
    obtain ⟨_, h2, h3⟩ := C_cells hC
    obtain ⟨ad, e1, hc⟩ := h3 hp
    obtain rfl := Option.some.inj e1
    exact F_of_cells (h.1 g (by simp [Value.ownBlock])) h2 (fun j x hx => by have := hc j x hx; rwa [add_plain] at this)
/-- The bytes of the first n sectors of a page. -/
def accS (safe : List (List Int)) (ps : List S185) (id : Int) : Nat → Option (List Int)
  | 0 => some []
  | n + 1 => (accS safe ps id n).bind fun a => (impl_sector.f safe ps (4 * id + n)).bind fun p => if a.length + p.1.length < 140737488355328 then some (a ++ p.1) else none
def impl_dpage.f (k : Nat) (safe : List (List Int)) (ps : List S185) (id : Int) : Option (Nat × Int × Int × Int × List Int) :=
  if 0 ≤ id ∧ id < (safe.length : Int) / 4 then (accS safe ps id 4).bind fun b => impl_parsePage.f k id b else some (1, 0, 0, 0, [])
theorem accS_some {safe : List (List Int)} {ps : List S185} {id : Int} : ∀ (n m : Nat) {b : List Int}, accS safe ps id n = some b → m ≤ n → ∃ a, accS safe ps id m = some a
  | 0, m, b, h, hm => ⟨b, by rw [show m = 0 by omega]; exact h⟩
  | n + 1, m, b, h, hm => by
    rcases Nat.lt_or_ge n m with h1 | h1
    · exact ⟨b, by rw [show m = n + 1 by omega]; exact h⟩
    · obtain ⟨a, ha, _⟩ := Option.bind_eq_some_iff.mp h
      exact accS_some n m ha h1
set_option maxHeartbeats 4000000 in
set_option maxRecDepth 100000 in
theorem impl_dpage.calls (k : Nat) (g b n : Nat) (A0 : Option Addr) (c0 : Nat) (safe : List (List Int)) (A1 : Option Addr) (c1 : Nat) (ps : List S185) (id : Int) (r : Nat × Int × Int × Int × List Int) (w0 w : World) (hd : IsDev w g b A0 safe.length c0 A1 ps.length c1) (hl : LMap w b n (lastM ps)) (hgb : g ≠ b) (hB : Below w0.heap.size w0 w) (hg : w0.heap.size ≤ g)
    (hr0 : Kd.C (Kd.slice 5 (Kd.int .u8)) w0 A0 safe.length safe) (hr1 : Kd.C k185 w0 A1 ps.length ps) (hc0 : safe.length ≤ c0) (hc1 : ps.length ≤ c1) (hi : (Lit.int .i64 id).wf = true) (h : impl_dpage.f k safe ps id = some r) :
    Calls Try.prog 118 #[.pointer (some ⟨g, 0, none⟩), .int .i64 id] w fun e w' => ∃ A c, e = .returned (.tuple #[.agg #[.int .i64 r.2.1, .int .i64 r.2.2.1, .int .i64 r.2.2.2.1, .slice A r.2.2.2.2.length c], perr r.1]) ∧ r.2.2.2.2.length ≤ c ∧ Kd.C (Kd.int .u8) w' A r.2.2.2.2.length r.2.2.2.2 ∧ Below w.heap.size w w' := by
  have hu44 := Try.underlying44
  have hu102 := Try.underlying102
  have hu159 := Try.underlying159
  have hn0 : safe.length ≤ 9223372036854775807 := hr0.2.1
  have HR0 := Aside0.mk hr0
  have HR1 := Aside0.mk hr1
  have HC0 := Aside0.mk hc0
  have HC1 := Aside0.mk hc1
  have HD := Aside0.mk hd
  have HL := Aside0.mk hl
  have HBW := Aside0.mk hB
  have HG := Aside0.mk hg
  have hpg : impl_Disk_pages.f safe ps = some ((safe.length : Int) / 4) := by
    unfold impl_Disk_pages.f
    congr 1
    unfold wrap64
    omega
  have NP := Aside0.mk hpg
  clear hr0 hr1 hc0 hc1 hd hl hB hg hpg
  unfold impl_dpage.f at h
  by_cases hlo : id < 0
  · rw [if_neg (by omega)] at h
    obtain rfl := Option.some.inj h
    have d1 : decide (id < 0) = true := decide_eq_true hlo
    go_enter Try.func118, Try.ntmps118
    go_wp2_with (first | ((with_reducible refine gate_dst (N := 4) rfl ?_); refine box_event ?hg (N := 4) ?hd (cs := #[.int .i64 0, .int .i64 0, .int .i64 0, .slice none 0 0]) (t := 102) ?hr ?_; (case hd => rfl); (case hg => rfl); (case hr => first | (go_simp; done) | (go_simp; rfl)); intro gr hgr w1 hbox hbel; have BR := Aside0.mk hbox; have HB := Aside0.mk hbel; have GR := Aside0.mk hgr; have hz2 : w1.cell? ⟨g, 2, none⟩ = some (.slice A0 safe.length c0) := (blk_cell (blk_below HD.out hbel) 2).trans rfl; have hz3 : w1.cell? ⟨g, 3, none⟩ = some (.slice A1 ps.length c1) := (blk_cell (blk_below HD.out hbel) 3).trans rfl; clear hbox hbel hgr) | ((with_reducible refine gate_ (.store 102 (.tmp 4) (.tmp 21)) rfl ?_); refine store_blk rfl rfl 102 (.tmp 4) (.tmp 21) rfl (off := 0) (u := .agg #[.int .i64 0, .int .i64 0, .int .i64 0, .slice none 0 0]) #[.int .i64 0, .int .i64 0, .int .i64 0, .slice none 0 0] rfl rfl BR.out [.int .i64 0, .int .i64 0, .int .i64 0, .slice none 0 0] rfl (by kernel_rfl) (Nat.le_of_ble_eq_true rfl) rfl rfl ?_; intro w9 hblk hgrw; have BR2 := Aside0.mk hblk; have HB2 := Aside0.mk (HB.out.grown hgrw HB.out.size (by intro q hq; cases hq; exact Nat.le_of_eq GR.out.symm)); clear hblk hgrw))
    refine bodyPost_ret (results_cell_slot rfl _ _ gr 102 #[.int .i64 0, .int .i64 0, .int .i64 0, .slice none 0 0] (0, 0) _ _ rfl rfl BR2.out Try.underlying102 rfl (by kernel_rfl)) rfl ?_
    first | exact ⟨none, 0, rfl, Nat.le_refl _, Kd.C_nil _ _, HB2.out⟩ | exact ⟨none, ⟨0, rfl⟩, Kd.C_nil _ _, HB2.out⟩
  have d1 : decide (id < 0) = false := decide_eq_false hlo
  go_enter Try.func118, Try.ntmps118
  go_wp2_with (first | ((with_reducible refine gate_dst (N := 4) rfl ?_); refine box_event ?hg (N := 4) ?hd (cs := #[.int .i64 0, .int .i64 0, .int .i64 0, .slice none 0 0]) (t := 102) ?hr ?_; (case hd => rfl); (case hg => rfl); (case hr => first | (go_simp; done) | (go_simp; rfl)); intro gr hgr w1 hbox hbel; have BR := Aside0.mk hbox; have HB := Aside0.mk hbel; have GR := Aside0.mk hgr; have hz2 : w1.cell? ⟨g, 2, none⟩ = some (.slice A0 safe.length c0) := (blk_cell (blk_below HD.out hbel) 2).trans rfl; have hz3 : w1.cell? ⟨g, 3, none⟩ = some (.slice A1 ps.length c1) := (blk_cell (blk_below HD.out hbel) 3).trans rfl; clear hbox hbel hgr))
  refine (impl_Disk_pages.calls A0 c0 safe A1 c1 ps _ _ (Kd.C_below HR0.out (below_step HBW.out HB.out)) HC0.out (Kd.C_below HR1.out (below_step HBW.out HB.out)) HC1.out NP.out).mono ?_
  rintro e w2 ⟨rfl, hb⟩
  have BR := Aside0.mk (blk_below BR.out hb)
  have HB := Aside0.mk (below_step HB.out hb)
  clear hb hz2 hz3
  by_cases hhi : id < (safe.length : Int) / 4
  case neg =>
    rw [if_neg (by omega)] at h
    obtain rfl := Option.some.inj h
    have d2 : decide ((safe.length : Int) / 4 ≤ id) = true := decide_eq_true (by omega)
    go_wp2_with (first | ((with_reducible refine gate_ (.store 102 (.tmp 4) (.tmp 21)) rfl ?_); refine store_blk rfl rfl 102 (.tmp 4) (.tmp 21) rfl (off := 0) (u := .agg #[.int .i64 0, .int .i64 0, .int .i64 0, .slice none 0 0]) #[.int .i64 0, .int .i64 0, .int .i64 0, .slice none 0 0] rfl rfl BR.out [.int .i64 0, .int .i64 0, .int .i64 0, .slice none 0 0] rfl (by kernel_rfl) (Nat.le_of_ble_eq_true rfl) rfl rfl ?_; intro w9 hblk hgrw; have BR2 := Aside0.mk hblk; have HB2 := Aside0.mk (HB.out.grown hgrw HB.out.size (by intro q hq; cases hq; exact Nat.le_of_eq GR.out.symm)); clear hblk hgrw))
    refine bodyPost_ret (results_cell_slot rfl _ _ gr 102 #[.int .i64 0, .int .i64 0, .int .i64 0, .slice none 0 0] (0, 0) _ _ rfl rfl BR2.out Try.underlying102 rfl (by kernel_rfl)) rfl ?_
    first | exact ⟨none, 0, rfl, Nat.le_refl _, Kd.C_nil _ _, HB2.out⟩ | exact ⟨none, ⟨0, rfl⟩, Kd.C_nil _ _, HB2.out⟩
  rw [if_pos (by omega)] at h
  obtain ⟨bs, H1, H2⟩ := Option.bind_eq_some_iff.mp h
  have N1 := Aside0.mk H1
  have N2 := Aside0.mk H2
  clear h H1 H2
  have d2 : decide ((safe.length : Int) / 4 ≤ id) = false := decide_eq_false (by omega)
  have hid : 0 ≤ id ∧ 4 * id + 4 ≤ safe.length := by omega
  have HID := Aside0.mk hid
  have HN0 := Aside0.mk hn0
  have GRW : Aside0 (w.heap.size ≤ gr) := ⟨Nat.le_of_eq GR.out.symm⟩
  clear hid hn0
  go_wp2_with fail
  go_loopg [6, 23] 4 (fun gk v6 v23 w' => ∃ (x : Int) (acc : List Int), v23 = .int .i64 x ∧ Aside0 (0 ≤ x ∧ (gk : Int) + x = 4) ∧ Aside0 (accS safe ps id x.toNat = some acc) ∧ Aside0 (Kd.R (Kd.int .u8) 5 w' w.heap.size (fun q => q ≠ gr) v6 acc) ∧ Aside0 (w'.heap[gr]? = some (.cells #[.int .i64 0, .int .i64 0, .int .i64 0, .slice none 0 0] 102 (0, 0))) ∧ Aside0 (Below w.heap.size w w'))
  case atStart =>
    exact ⟨0, [], rfl, ⟨by omega⟩, ⟨rfl⟩, ⟨Kd.R_nil _ _ _ _ _⟩, BR, HB⟩
  case round =>
    clear BR HB
    obtain ⟨x, acc, rfl, HXK, HA, HO, BR, HB⟩ := hrel
    cases gk with
    | zero =>
      have hx : x = 4 := by have := HXK.out; omega
      subst hx
      have hacc := HA.out
      rw [show (4 : Int).toNat = 4 from rfl, N1.out] at hacc
      obtain rfl := Option.some.inj hacc
      clear hacc
      obtain ⟨A6, c6, rfl⟩ := Kd.R_slice HO.out
      go_wp2_with fail
      refine (impl_parsePage.calls k id A6 c6 bs r _ (fun q => q ≠ gr) (F_of_R HO.out) (Kd.R_reads' HO.out).2.1 N2.out).mono ?_
      rintro e w5 ⟨A5, c5, rfl, hc5, hf5, hb5⟩
      have BR := Aside0.mk (blk_below BR.out hb5)
      have HB := Aside0.mk (below_step HB.out hb5)
      have HF := Aside0.mk hf5
      have HC5 := Aside0.mk hc5
      clear hb5 hf5 hc5
      obtain ⟨tag, rid, rkind, rsize, body⟩ := r
      simp only at HF HC5 ⊢
      go_wp2_with (first | ((with_reducible refine gate_ (.store 102 (.tmp 4) (.tmp 42)) rfl ?_); refine store_blk rfl rfl 102 (.tmp 4) (.tmp 42) rfl (off := 0) (u := .agg #[.int .i64 rid, .int .i64 rkind, .int .i64 rsize, .slice A5 body.length c5]) #[.int .i64 rid, .int .i64 rkind, .int .i64 rsize, .slice A5 body.length c5] rfl rfl BR.out [.int .i64 rid, .int .i64 rkind, .int .i64 rsize, .slice A5 body.length c5] rfl (by kernel_rfl) (Nat.le_of_ble_eq_true rfl) rfl rfl ?_; intro w9 hblk hgrw; have BR2 := Aside0.mk hblk; have HB2 := Aside0.mk (HB.out.grown hgrw HB.out.size (by intro q hq; cases hq; exact GRW.out)); have HCF := Aside0.mk (Kd.F_now (Kd.F_grown HF.out hgrw (fun q hq e => hq (Option.some.inj e)))); clear hblk hgrw))
      refine bodyPost_ret (results_cell_slot rfl _ _ gr 102 #[.int .i64 rid, .int .i64 rkind, .int .i64 rsize, .slice A5 body.length c5] (0, 0) _ _ rfl rfl BR2.out Try.underlying102 rfl (by kernel_rfl)) rfl ?_
      exact ⟨A5, c5, rfl, HC5.out, HCF.out, HB2.out⟩
    | succ gk =>
      have p0 : 0 ≤ x := HXK.out.1
      have q0 : x < 4 := by have := HXK.out; omega
      have HP0 := Aside0.mk p0
      have HQ0 := Aside0.mk q0
      have c4b0 : decide (x < 4) = true := decide_eq_true q0
      obtain ⟨nx, hnx⟩ := accS_some 4 (x.toNat + 1) N1.out (by omega)
      have hst := hnx
      unfold accS at hst
      rw [HA.out] at hst
      simp only [Option.bind_some] at hst
      obtain ⟨⟨sl, sb⟩, hs1, hs2⟩ := Option.bind_eq_some_iff.mp hst
      split at hs2
      case isFalse => cases hs2
      rename_i hlt
      obtain rfl := Option.some.inj hs2
      dsimp only at hlt hnx
      have hxx : 4 * id + ((x.toNat : Nat) : Int) = 4 * id + x := by omega
      rw [hxx] at hs1
      have hwr : wrap64 (wrap64 (4 * id) + x) = 4 * id + x := by have := HID.out; have := HN0.out; unfold wrap64; omega
      have hwf4 : (Lit.int .i64 (4 * id + x)).wf = true := WalkArith.wf_i64 (by have := HID.out; have := HN0.out; omega)
      have NS := Aside0.mk hs1
      have NX := Aside0.mk hnx
      have NL := Aside0.mk hlt
      have NW := Aside0.mk hwr
      have NF := Aside0.mk hwf4
      have HDx := Aside0.mk (show IsDev wr g b A0 safe.length c0 A1 ps.length c1 from blk_below HD.out HB.out)
      have HLx := Aside0.mk (LMap_step HL.out (HB.out.block b (LMap_lt HL.out)))
      clear hs1 hnx hst hlt hwr hwf4 hxx hs2 p0 q0
      go_wp2_with fail
      have hwr := NW.out
      rw [hwr]
      clear hwr
      refine (impl_sector.calls g b n A0 c0 safe A1 c1 ps (4 * id + x) sl sb w0 _ HDx.out HLx.out hgb (below_step HBW.out HB.out) HG.out HR0.out HR1.out NF.out NS.out).mono ?_
      rintro e w3 ⟨A3, c3, rfl, hl3, hC3, hb3⟩
      have BR := Aside0.mk (blk_below BR.out hb3)
      have HO := Aside0.mk (Kd.R_below HO.out hb3)
      have HB := Aside0.mk (below_step HB.out hb3)
      have HC3 := Aside0.mk hC3
      have HGL : Aside0 (gr < w3.heap.size) := ⟨blk_lt BR.out⟩
      clear hC3 hl3 hb3 HDx HLx
      go_wp2_with (first | ((with_reducible refine gate_builtin (b := .append) (xs := #[.tmp 35, .tmp 36]) rfl ?_); at_builtin; refine Kd.R_append_rows (Kd.int .u8) (w0 := w) w.heap.size rfl (.tmp 35) (.tmp 36) 22 5 (.int .u8 0) 1 rfl Try.underlying22 info5 rfl (by decide) (by omega) u6 acc sl _ _ _ (fun q => q ≠ gr) (fun _ => False) rfl rfl ?aO ?aR (fun _ _ h => h) (fun _ h => h.elim) ?aF ?aB ?aS ?aL ?_; (case aR => exact Kd.C_below HC3.out (below_step HBW.out HB.out)); (case aB => exact HB.out); (case aF => exact (fun q hq => by have := HGL.out; omega)); (case aO => exact HO.out); (case aS => exact HB.out.size); (case aL => have := NL.out; omega); intro v7 w4 ho hb hgrw hat; have HO7 := Aside0.mk ho; have HB7 := Aside0.mk hb; have BR7 := Aside0.mk (blk_grown BR.out hgrw (fun e => HO.out.1 gr e.symm rfl)); clear ho hb hgrw hat))
      go_roundg gk
      case measure => omega
      case rel =>
        have hw1 : wrap64 (x + 1) = x + 1 := by have := HP0.out; have := HQ0.out; unfold wrap64; omega
        have ht1 : (x + 1).toNat = x.toNat + 1 := by have := HP0.out; omega
        exact ⟨x + 1, acc ++ sl, by first | rfl | (rw [hw1]), ⟨by have := HXK.out; omega⟩, ⟨by rw [ht1]; exact NX.out⟩, HO7, BR7, HB7⟩

def impl_ReadPage.f (k : Nat) (safe : List (List Int)) (ps : List S185) (id : Int) : Option (Int × List Int × Bool) :=
  (impl_DiskOk.f k safe ps).bind fun ok => if ok = true then ((impl_dpage.f k safe ps id).bind fun p => if p.1 = 0 then ((bytes_Clone.f p.2.2.2.2).bind fun b => some (p.2.2.1, b, true)) else some (0, [], false)) else some (0, [], false)
def impl_ReadPage.T6 : Bool × List (List Nat × List Nat) := (true, [([], []), ([0], [0]), ([1], [1]), ([], []), ([3], [3]), ([4], [4]), ([2, 5, 0, 1, 2], [2]), ([5, 6, 0, 1, 2, 3, 4, 5, 6], [5]), ([7, 0, 1, 2, 3, 4, 5, 6, 7], [])])
def impl_ReadPage.B6 : List Nat := [0, 1, 3, 0, 8, 24, 63, 127, 255]
theorem impl_ReadPage.tab6 : rtab .any (opsOf Try.f51 6) = impl_ReadPage.T6 := by kernel_rfl
theorem impl_ReadPage.bits6 : waitsOk impl_ReadPage.T6.2 impl_ReadPage.B6 = true := by kernel_rfl
set_option maxHeartbeats 4000000 in
set_option maxRecDepth 100000 in
theorem impl_ReadPage.calls (k : Nat) (A0 : Option Addr) (c0 : Nat) (safe : List (List Int)) (A1 : Option Addr) (c1 : Nat) (ps : List S185) (id : Int) (r1 : Int) (r2 : List Int) (r3 : Bool) (w : World) (hr0 : Kd.C (Kd.slice 5 (Kd.int .u8)) w A0 safe.length safe) (hc0 : safe.length ≤ c0) (hr1 : Kd.C k185 w A1 ps.length ps) (hc1 : ps.length ≤ c1)
    (hi : (Lit.int .i64 id).wf = true) (hwf : ∀ p ∈ ps, (Lit.int .i64 p.f0).wf = true) (h : impl_ReadPage.f k safe ps id = some (r1, r2, r3)) :
    Calls Try.prog 51 #[.agg #[.slice A0 safe.length c0, .slice A1 ps.length c1], .int .i64 id] w fun e w' => ∃ v : Value, e = .returned (.tuple #[.int .i64 r1, v, .bool r3]) ∧ Kd.R (Kd.int .u8) 5 w' w.heap.size (fun _ => True) v r2 ∧ Below w.heap.size w w' := by
  have hu44 := Try.underlying44
  have hu102 := Try.underlying102
  have hu100 := Try.underlying100
  have HR0 := Aside0.mk hr0
  have HR1 := Aside0.mk hr1
  have HC0 := Aside0.mk hc0
  have HC1 := Aside0.mk hc1
  clear hr0 hr1 hc0 hc1
  unfold impl_ReadPage.f at h
  obtain ⟨ok, H1, h⟩ := Option.bind_eq_some_iff.mp h
  have N1 := Aside0.mk H1
  have H := Aside0.mk h
  have HWX := Aside0.mk hi
  have HWF := Aside0.mk hwf
  clear H1 h hi hwf
  go_enter Try.func51, Try.ntmps51
  go_wp2_with (first | ((with_reducible refine gate_dst (N := 2) rfl ?_); refine box_event ?hg (N := 2) ?hd (cs := #[.slice A0 safe.length c0, .slice A1 ps.length c1]) (t := 44) ?hr ?_; (case hd => rfl); (case hg => rfl); (case hr => first | (go_simp; done) | (go_simp; rfl)); intro gd hgr w1 hbox hbel; have BD := Aside0.mk hbox; have HB := Aside0.mk hbel; have hd0 : w1.cell? ⟨gd, 0, none⟩ = some (.slice A0 safe.length c0) := (blk_cell hbox 0).trans rfl; have hd1 : w1.cell? ⟨gd, 1, none⟩ = some (.slice A1 ps.length c1) := (blk_cell hbox 1).trans rfl; clear hbox hbel hgr))
  refine (impl_DiskOk.calls k A0 c0 safe A1 c1 ps ok _ (Kd.C_below HR0.out HB.out) HC0.out (Kd.C_below HR1.out HB.out) HC1.out N1.out).mono ?_
  rintro e w2 ⟨rfl, hb2⟩
  have HB2 := Aside0.mk (below_step HB.out hb2)
  have BD2 := Aside0.mk (blk_below BD.out hb2)
  clear hb2 BD HB hd0 hd1
  cases ok with
  | false =>
    have h := H.out
    rw [if_neg (by decide)] at h
    simp only [Option.some.injEq, Prod.mk.injEq] at h
    obtain ⟨rfl, rfl, rfl⟩ := h
    go_wp2_with fail
    go_ret3
    exact ⟨_, rfl, Kd.R_nil _ _ _ _ _, HB2.out⟩
  | true =>
    have h := H.out
    rw [if_pos rfl] at h
    obtain ⟨p, H2, h⟩ := Option.bind_eq_some_iff.mp h
    have N2 := Aside0.mk H2
    have H3 := Aside0.mk h
    clear H2 H h
    have hd0 : w2.cell? ⟨gd, 0, none⟩ = some (.slice A0 safe.length c0) := (blk_cell BD2.out 0).trans rfl
    have hd1 : w2.cell? ⟨gd, 1, none⟩ = some (.slice A1 ps.length c1) := (blk_cell BD2.out 1).trans rfl
    go_wp2_with fail
    refine (impl_deviceOf.calls A0 safe.length c0 A1 c1 ps _ (Kd.C_below HR1.out HB2.out) HC1.out HWF.out).mono ?_
    rintro e w3 ⟨g, bm, rfl, hdev, hmap, hg, hbm, hgb, hb3⟩
    have HB3 := Aside0.mk (below_step HB2.out hb3)
    have HDEV := Aside0.mk hdev
    have HMAP := Aside0.mk hmap
    have HG := Aside0.mk (Nat.le_trans HB2.out.size hg)
    clear hdev hmap hbm hb3 HB2 BD2 hd0 hd1 hg
    go_wp2_with fail
    refine (impl_dpage.calls k g bm _ A0 c0 safe A1 c1 ps id p w _ HDEV.out HMAP.out hgb HB3.out HG.out HR0.out HR1.out HC0.out HC1.out HWX.out N2.out).mono ?_
    rintro e w4 ⟨A5, c5, rfl, hl4, hC4, hb4⟩
    obtain ⟨tag, rid, kind, size, body⟩ := p
    simp only at hl4 hC4 H3 ⊢
    have HB4 := Aside0.mk (below_step HB3.out hb4)
    have HC4 := Aside0.mk hC4
    have HL4 := Aside0.mk hl4
    clear hC4 hl4 hb4 HB3 HDEV HMAP
    generalize he : perr tag = ve
    cases tag with
    | succ t =>
      have h := H3.out
      rw [if_neg (by omega)] at h
      simp only [Option.some.injEq, Prod.mk.injEq] at h
      obtain ⟨rfl, rfl, rfl⟩ := h
      have hne : ∃ s : ByteArray, ve = .iface 108 (.string s) := by
        cases t with
        | zero => exact ⟨_, he.symm⟩
        | succ t => exact ⟨_, he.symm⟩
      obtain ⟨s, rfl⟩ := hne
      clear he
      have hneq := fun w : World => run_neq_iface_nil (P := Try.prog) w 104 (by kernel_rfl) 108 (.string s)
      go_wp2_with (first | ((with_reducible refine gate_dst (N := 7) rfl ?_); refine box_event ?hg (N := 7) ?hd (cs := #[.int .i64 0, .int .i64 0, .int .i64 0, .slice none 0 0]) (t := 102) ?hr ?_; (case hd => rfl); (case hg => rfl); (case hr => first | (go_simp; done) | (go_simp; rfl)); intro gp hgr w6 hbox hbel; have BP0 := Aside0.mk hbox; have HFa := Aside0.mk (F_of_C HC4.out); have HFb := Aside0.mk (Kd.F_mono (Kd.F_below (Kd.F_bound HFa.out) hbel) (ok' := fun q => q < w4.heap.size) (fun q hq => hq.2)); have GP := Aside0.mk hgr; have HB5a := Aside0.mk (below_step HB4.out hbel); clear hbox hbel hgr) | ((with_reducible refine gate_ (.store 102 (.tmp 7) (.tmp 17)) rfl ?_); refine store_blk rfl rfl 102 (.tmp 7) (.tmp 17) rfl (off := 0) (u := .agg #[.int .i64 rid, .int .i64 kind, .int .i64 size, .slice A5 body.length c5]) #[.int .i64 rid, .int .i64 kind, .int .i64 size, .slice A5 body.length c5] rfl rfl BP0.out [.int .i64 rid, .int .i64 kind, .int .i64 size, .slice A5 body.length c5] rfl (by kernel_rfl) (Nat.le_of_ble_eq_true rfl) rfl rfl ?_; intro w7 hblk hgrw; have BP := Aside0.mk hblk; have HB5 := Aside0.mk (HB5a.out.grown hgrw HB5a.out.size (by intro q hq; cases hq; rw [GP.out]; exact HB4.out.size)); have HF7 := Aside0.mk (Kd.F_grown HFb.out hgrw (fun q hq e => by have := Option.some.inj e; have := GP.out; omega)); clear hblk hgrw))
      go_ret3
      exact ⟨_, rfl, Kd.R_nil _ _ _ _ _, HB5.out⟩
    | zero =>
      have h := H3.out
      rw [if_pos rfl] at h
      obtain ⟨b, H2, h⟩ := Option.bind_eq_some_iff.mp h
      simp only [Option.some.injEq, Prod.mk.injEq] at h
      obtain ⟨rfl, rfl, rfl⟩ := h
      have N3 := Aside0.mk H2
      clear H2 H3
      simp only [perr] at he
      subst he
      go_wp2_with (first | ((with_reducible refine gate_dst (N := 7) rfl ?_); refine box_event ?hg (N := 7) ?hd (cs := #[.int .i64 0, .int .i64 0, .int .i64 0, .slice none 0 0]) (t := 102) ?hr ?_; (case hd => rfl); (case hg => rfl); (case hr => first | (go_simp; done) | (go_simp; rfl)); intro gp hgr w6 hbox hbel; have BP0 := Aside0.mk hbox; have HFa := Aside0.mk (F_of_C HC4.out); have HFb := Aside0.mk (Kd.F_mono (Kd.F_below (Kd.F_bound HFa.out) hbel) (ok' := fun q => q < w4.heap.size) (fun q hq => hq.2)); have GP := Aside0.mk hgr; have HB5a := Aside0.mk (below_step HB4.out hbel); clear hbox hbel hgr) | ((with_reducible refine gate_ (.store 102 (.tmp 7) (.tmp 17)) rfl ?_); refine store_blk rfl rfl 102 (.tmp 7) (.tmp 17) rfl (off := 0) (u := .agg #[.int .i64 rid, .int .i64 kind, .int .i64 size, .slice A5 body.length c5]) #[.int .i64 rid, .int .i64 kind, .int .i64 size, .slice A5 body.length c5] rfl rfl BP0.out [.int .i64 rid, .int .i64 kind, .int .i64 size, .slice A5 body.length c5] rfl (by kernel_rfl) (Nat.le_of_ble_eq_true rfl) rfl rfl ?_; intro w7 hblk hgrw; have BP := Aside0.mk hblk; have HB5 := Aside0.mk (HB5a.out.grown hgrw HB5a.out.size (by intro q hq; cases hq; rw [GP.out]; exact HB4.out.size)); have HF7 := Aside0.mk (Kd.F_grown HFb.out hgrw (fun q hq e => by have := Option.some.inj e; have := GP.out; omega)); clear hblk hgrw))
      refine start_ (n := 9) (S := fun w' => w'.heap[gp]? = some (.cells #[.int .i64 rid, .int .i64 kind, .int .i64 size, .slice A5 body.length c5] 102 (0, 0))) (ds := []) #[false, false, false, false, false, false, false, false, false] (by kernel_rfl) rfl rfl (blk_drew BP.out) (fun hHeld => ?_); refine with_tabW impl_ReadPage.tab6 impl_ReadPage.bits6 (fun HT_ HW_ => ?_)
      have HB8 := Aside0.mk (below_drew1 HB5.out)
      have HF8 := Aside0.mk (Kd.F_drew HF7.out)
      clear BP
      refine pure_ (i := 0) (N := some 21) (v := ?_) (a' := ?_) #[true, false, false, false, false, false, false, false, false] rfl rfl (any_of HT_.out (by kernel_rfl)) (fun _ _ _ h => h) (Or.inl ⟨by rfl, ?_⟩) ?_ ?_
      rotate_left
      · intro w'
        go_simp
        with_reducible rfl
      rotate_left
      · simp only [Act.put, List.setIfInBounds_toArray, List.set_cons_zero, List.set_cons_succ, i64_w, i32_w]
        rfl
      refine pure_ (i := 1) (N := some 22) (v := ?_) (a' := ?_) #[true, true, false, false, false, false, false, false, false] rfl rfl (any_of HT_.out (by kernel_rfl)) (fun _ _ _ h => h) (Or.inl ⟨by rfl, ?_⟩) ?_ ?_
      rotate_left
      · intro w'
        go_simp
        with_reducible rfl
      rotate_left
      · simp only [Act.put, List.setIfInBounds_toArray, List.set_cons_zero, List.set_cons_succ, i64_w, i32_w]
        rfl
      refine take_ (i := 2) (N := some 23) (v := ?_) (a' := ?_) #[true, true, true, false, false, false, false, false, false] rfl rfl (take_ofW HT_.out HW_.out (by kernel_rfl)) (fun _ _ _ h => h) (Or.inl ⟨by rfl, ?_⟩) hHeld ?_ ?_
      rotate_left
      · intro w' s0
        have hcz0 : w'.cell? ⟨gp, 0, none⟩ = some (.int .i64 rid) := (blk_cell s0 0).trans rfl
        have hcz1 : w'.cell? ⟨gp, 1, none⟩ = some (.int .i64 kind) := (blk_cell s0 1).trans rfl
        have hcz2 : w'.cell? ⟨gp, 2, none⟩ = some (.int .i64 size) := (blk_cell s0 2).trans rfl
        have hcz3 : w'.cell? ⟨gp, 3, none⟩ = some (.slice A5 body.length c5) := (blk_cell s0 3).trans rfl
        clear s0
        go_simp
        with_reducible rfl
      rotate_left
      · simp only [Act.put, List.setIfInBounds_toArray, List.set_cons_zero, List.set_cons_succ, i64_w, i32_w]
        rfl
      refine pure_ (i := 3) (N := some 24) (v := ?_) (a' := ?_) #[true, true, true, true, false, false, false, false, false] rfl rfl (any_of HT_.out (by kernel_rfl)) (fun _ _ _ h => h) (Or.inl ⟨by rfl, ?_⟩) ?_ ?_
      rotate_left
      · intro w'
        go_simp
        with_reducible rfl
      rotate_left
      · simp only [Act.put, List.setIfInBounds_toArray, List.set_cons_zero, List.set_cons_succ, i64_w, i32_w]
        rfl
      refine take_ (i := 4) (N := some 25) (v := ?_) (a' := ?_) #[true, true, true, true, true, false, false, false, false] rfl rfl (take_ofW HT_.out HW_.out (by kernel_rfl)) (fun _ _ _ h => h) (Or.inl ⟨by rfl, ?_⟩) hHeld ?_ ?_
      rotate_left
      · intro w' s0
        have hcz0 : w'.cell? ⟨gp, 0, none⟩ = some (.int .i64 rid) := (blk_cell s0 0).trans rfl
        have hcz1 : w'.cell? ⟨gp, 1, none⟩ = some (.int .i64 kind) := (blk_cell s0 1).trans rfl
        have hcz2 : w'.cell? ⟨gp, 2, none⟩ = some (.int .i64 size) := (blk_cell s0 2).trans rfl
        have hcz3 : w'.cell? ⟨gp, 3, none⟩ = some (.slice A5 body.length c5) := (blk_cell s0 3).trans rfl
        clear s0
        go_simp
        with_reducible rfl
      rotate_left
      · simp only [Act.put, List.setIfInBounds_toArray, List.set_cons_zero, List.set_cons_succ, i64_w, i32_w]
        rfl
      refine one_ (i := 5) (N := some 26) #[true, true, true, true, true, true, false, false, false] rfl rfl (one_of HT_.out (by kernel_rfl)) (by decide) (fun K hK => ?_)
      refine goes_ Try.func72 (by kernel_rfl) rfl #[.slice A5 body.length c5] (by rfl) rfl rfl (by first | rfl | (simp only [List.map_toArray, List.map_cons, List.map_nil]; first | done | rfl)) ?_
      refine (bytes_Clone.calls A5 c5 body b _ (Kd.F_now HF8.out) HL4.out N3.out).mono ?_
      rintro e w9 ⟨v9, rfl, ho9, hb9⟩
      refine ⟨_, rfl, ?_⟩
      have HO9 := Aside0.mk (Kd.R_lower ho9 HB8.out.size)
      have HB9 := Aside0.mk (below_step HB8.out hb9)
      have HD9 := Aside0.mk (blk_below hHeld hb9)
      clear ho9 hb9 hHeld
      refine hK.out _ _ (HD9.out) (fun hHeld => ?_)
      clear hK K
      refine norm_ (a' := ?_) ?_ ?_
      rotate_left
      · show Act.put _ (some 26) _ = _
        simp only [Act.put, List.setIfInBounds_toArray, List.set_cons_zero, List.set_cons_succ, i64_w, i32_w]
        rfl
      refine pure_ (i := 6) (N := some 4) (v := ?_) (a' := ?_) #[true, true, true, true, true, true, true, false, false] rfl rfl (any_of HT_.out (by kernel_rfl)) (fun _ _ _ h => h) (Or.inl ⟨by rfl, ?_⟩) ?_ ?_
      rotate_left
      · intro w'
        go_simp
        with_reducible rfl
      rotate_left
      · simp only [Act.put, List.setIfInBounds_toArray, List.set_cons_zero, List.set_cons_succ, i64_w, i32_w]
        rfl
      refine pure_ (i := 7) (N := some 5) (v := ?_) (a' := ?_) #[true, true, true, true, true, true, true, true, false] rfl rfl (any_of HT_.out (by kernel_rfl)) (fun _ _ _ h => h) (Or.inl ⟨by rfl, ?_⟩) ?_ ?_
      rotate_left
      · intro w'
        go_simp
        with_reducible rfl
      rotate_left
      · simp only [Act.put, List.setIfInBounds_toArray, List.set_cons_zero, List.set_cons_succ, i64_w, i32_w]
        rfl
      refine pure_ (i := 8) (N := some 6) (v := ?_) (a' := ?_) #[true, true, true, true, true, true, true, true, true] rfl rfl (any_of HT_.out (by kernel_rfl)) (fun _ _ _ h => h) (Or.inl ⟨by rfl, ?_⟩) ?_ ?_
      rotate_left
      · intro w'
        go_simp
        with_reducible rfl
      rotate_left
      · simp only [Act.put, List.setIfInBounds_toArray, List.set_cons_zero, List.set_cons_succ, i64_w, i32_w]
        rfl
      refine done_ (done_of HT_.out (by kernel_rfl)) ?_
      try clear hHeld
      go_wp2_with fail
      go_ret3
      exact ⟨_, rfl, HO9.out, HB9.out⟩
end Go.Proofs.Ytlopmffdebhpfaa.G

/-! ## G117 -/
namespace Go.Proofs.Ytlopmffdebhpfaa.G
open Go.RowKit Go.Proofs.YtlopmffdebhpfaaW.PrintWords Go.Proofs.YtlopmffdebhpfaaW.PrintLast Go.Proofs.YtlopmffdebhpfaaW.PrintMore
attribute [local go_sem] max2_int min2_int max_two min_two max_three min_three max_four min_four
set_option linter.unusedVariables false
set_option linter.unusedSimpArgs false

/-! ### spec_l2View_page: function 117 -/
mutual
def spec_l2View_page.j0 : Nat → Int → Bool → List (List Int) → Option (Int × List Int × Bool)
  | 0, _, _, _ => none
  | k + 1, x1, x18, x700000 => if x18 = true then (some (0, (([] : List Int)), false)) else (spec_l2View_page.l0 k x1 (([] : List Int)) 0 x700000)
def spec_l2View_page.l0 : Nat → Int → List Int → Int → List (List Int) → Option (Int × List Int × Bool)
  | 0, _, _, _, _ => none
  | k + 1, x1, x7, x8, x700000 => if x8 < 4 then (if 0 ≤ (wrap64 ((wrap64 (4 * x1)) + x8)) then (if (wrap64 ((wrap64 (4 * x1)) + x8)) < (x700000.length : Int) then (if x7.length + (rd_L2 x700000 (wrap64 ((wrap64 (4 * x1)) + x8))).length < 140737488355328 then (spec_l2View_page.l0 k x1 (x7 ++ (rd_L2 x700000 (wrap64 ((wrap64 (4 * x1)) + x8)))) (wrap64 (x8 + 1)) x700000) else (none)) else (none)) else (none)) else ((spec_DecodePage.f k x1 x7).bind fun bt710 => (some (bt710.1, bt710.2.1, bt710.2.2)))
end
def spec_l2View_page.f (k : Nat) (l0_0 : List (List Int)) (a1 : Int) : Option (Int × List Int × Bool) := if a1 < 0 then (spec_l2View_page.j0 k a1 true l0_0) else (spec_l2View_page.j0 k a1 (decide (a1 ≥ (wrap64 ((l0_0.length : Int) / 4)))) l0_0)
set_option maxHeartbeats 8000000 in
set_option maxRecDepth 100000 in
theorem spec_l2View_page.calls (k : Nat) (A0_0 : Option Addr) (c0_0 : Nat) (l0_0 : List (List Int)) (a1 : Int) (r1 : Int) (r2 : List Int) (r3 : Bool) (w : World) (hr0_0 : Kd.C (Kd.slice 5 (Kd.int .u8)) w A0_0 l0_0.length l0_0) (hc0_0 : l0_0.length ≤ c0_0) (h : spec_l2View_page.f k l0_0 a1 = some (r1, r2, r3)) :
    Calls Try.prog 117 #[.agg #[.slice A0_0 l0_0.length c0_0], .int .i64 a1] w fun e w' => ∃ v1_ : Value, e = .returned (.tuple #[.int .i64 r1, v1_, .bool r3]) ∧ Kd.R (Kd.int .u8) 5 w' w.heap.size (fun _ => True) v1_ r2 ∧ Below w.heap.size w w' := by
  have hu163 := Try.underlying163
  have HR0_0 := Aside0.mk hr0_0
  have HC0_0 := Aside0.mk hc0_0
  clear hr0_0 hc0_0
  have HB := Aside0.mk (Below.refl w.heap.size w)
  have H : (if a1 < 0 then (spec_l2View_page.j0 k a1 true l0_0) else (spec_l2View_page.j0 k a1 (decide (a1 ≥ (wrap64 ((l0_0.length : Int) / 4)))) l0_0)) = some (r1, r2, r3) := h
  clear h
  have HC3 := Aside0.mk H
  clear H
  go_enter Try.func117, Try.ntmps117
  go_upto_region 1 with (first | ((with_reducible refine gate_dst (N := 2) rfl ?_); (try (refine gate_guard (by rfl) ?_; dsimp only)); refine box_event ?hg (N := 2) ?hd (cs := #[.slice A0_0 l0_0.length c0_0]) (t := 163) ?hr ?_; (case hd => rfl); (case hg => rfl); (case hr => first | (go_simp; done) | (go_simp; rfl)); intro gb699 hg w4 hbox hb; have n0_ := Aside0.mk (below_step (by repeat (first | (with_reducible first | exact HB.out | apply below_alloc | apply pw_below_drewN | apply below_drew1) | exact HB.out)) hb); have n1_ := Aside0.mk (hbox); have n2_ := Aside0.mk ((by rw [hg]; exact (below_size (by repeat (first | (with_reducible first | exact HB.out | apply below_alloc | apply pw_below_drewN | apply below_drew1) | exact HB.out))) : w.heap.size ≤ gb699)); have n3_ := Aside0.mk ((by rw [hg]; exact (below_size (by repeat (first | (with_reducible first | exact HB.out | apply below_alloc | apply pw_below_drewN | apply below_drew1) | exact HB.out))) : w.heap.size ≤ gb699)); clear HB; have HB := n0_; have BK699 := n1_; have GW699 := n2_; have GE699 := n3_; clear n0_ n1_ n2_ n3_; clear hb hbox hg))
  (try simp only [Act.put, List.setIfInBounds_toArray, List.set_cons_zero, List.set_cons_succ])
  go_cut [18] (fun v18 wc => ∃ (kq : Nat) (x18_2 : Bool), v18 = .bool x18_2 ∧ Aside0 (spec_l2View_page.j0 kq a1 x18_2 l0_0 = some (r1, r2, r3)) ∧ Aside0 (kq ≤ k) ∧ Aside0 (wc.heap[gb699]? = some (.cells #[(.slice A0_0 l0_0.length c0_0)] 163 (0, 0))) ∧ Aside0 (Below w.heap.size w wc))
  case first =>
    have H := HC3.out
    clear HC3
    by_cases c5 : a1 < 0
    · rw [if_pos c5] at H
      have c5b0 : decide (a1 < 0) = true := decide_eq_true c5
      clear c5
      (first | rw [c5b0] | (simp only [i64_w, i32_w]; rw [c5b0]) | skip)
      have H' := Aside0.mk H
      clear H
      go_wp2
      go_meet
      case rel => exact ⟨_, (true), (by first | rfl | (simp; done) | (simp [*]; done)), H', ⟨by first | omega | exact Nat.le_refl _⟩, ⟨by (with_reducible repeat (first | refine blk_drewN ?_ _ | refine blk_drew ?_ | refine blk_alloc ?_ _)); exact BK699.out⟩, ⟨by repeat (first | (with_reducible first | exact HB.out | apply below_alloc | apply pw_below_drewN | apply below_drew1 | refine below_set ?_ GE699.out) | exact HB.out)⟩⟩
    · rw [if_neg c5] at H
      have c5b0 : decide (a1 < 0) = false := decide_eq_false c5
      clear c5
      (first | rw [c5b0] | (simp only [i64_w, i32_w]; rw [c5b0]) | skip)
      have H' := Aside0.mk H
      clear H
      have hcz6_0 : w4.cell? ⟨gb699, 0, none⟩ = some (.slice A0_0 l0_0.length c0_0) := (blk_cell BK699.out 0).trans rfl
      have hfz6_0 := blk_frozen BK699.out 0
      go_wp2
      go_meet
      case rel => exact ⟨_, (decide (a1 ≥ (wrap64 ((l0_0.length : Int) / 4)))), (by first | rfl | (simp; done) | (simp [*]; done)), H', ⟨by first | omega | exact Nat.le_refl _⟩, ⟨by (with_reducible repeat (first | refine blk_drewN ?_ _ | refine blk_drew ?_ | refine blk_alloc ?_ _)); exact BK699.out⟩, ⟨by repeat (first | (with_reducible first | exact HB.out | apply below_alloc | apply pw_below_drewN | apply below_drew1 | refine below_set ?_ GE699.out) | exact HB.out)⟩⟩
  case rest =>
    clear HC3
    try clear c1
    try clear p2
    try clear c5
    try clear c5b0
    try clear p6
    try clear hcz6_0
    try clear hfz6_0
    obtain ⟨kq, x18_2, rfl, HA, HJ2, BK699, HB⟩ := hcut
    cases kq with
    | zero => exact absurd HA.out (by simp [spec_l2View_page.j0])
    | succ kj2 =>
      have H := HA.out
      clear HA
      simp only [spec_l2View_page.j0] at H
      by_cases c7 : x18_2 = true
      · subst c7
        have H1 : (some (0, (([] : List Int)), false)) = some (r1, r2, r3) := by rw [if_pos rfl] at H; exact H
        clear H
        have H := H1
        clear H1
        obtain ⟨y700, hy700⟩ : ∃ y_ : List Int, y_ = (([] : List Int)) := ⟨_, rfl⟩
        replace H : (some (0, y700, false)) = some (r1, r2, r3) := by first | (rw [hy700]; with_reducible exact H) | (have H2_ := (Option.bind_some _ _).symm.trans H; rw [hy700]; with_reducible exact H2_) | (have H2_ := (Option.bind_some _ _).symm.trans H; with_reducible exact H2_) | with_reducible exact H | (rw [hy700]; exact H) | exact H
        have Ny700 := Aside0.mk hy700
        clear hy700
        simp only [Option.some.injEq, Prod.mk.injEq] at H
        obtain ⟨rfl, rfl, rfl⟩ := H
        go_wp2_with (first | ((with_reducible refine gate_dst (N := 19) rfl ?_); (try (refine gate_guard (by rfl) ?_; dsimp only)); refine Kd.R_lit (Kd.int .u8) _ 5 ?hg (N := 19) ?hd (xs := ([] : List Int)) (inner := []) (ok := fun _ => True) (okp := fun _ => True) ?hr ?hp (fun _ hk => hk) trivial (Below.refl _ _) (Nat.le_refl _) (by simp) ?_; (case hd => rfl); (case hg => rfl); (case hr => first | (go_simp; done) | (go_simp; rfl)); (case hp => exact (Reps.none _ _)); intro v701 w8 ho9 hb hg_ hnew_; clear hg_ hnew_; (first | rw [← Ny700.out] at ho9 | (simp only [Int.reduceToNat] at ho9; rw [← Ny700.out] at ho9)); have n0_ := Aside0.mk (Kd.R_lower ho9 (below_size (by repeat (first | (with_reducible first | exact HB.out | apply below_alloc | apply pw_below_drewN | apply below_drew1 | refine below_set ?_ GE699.out) | exact HB.out)))); have n1_ := Aside0.mk (blk_below (g := gb699) (o := .cells #[.slice A0_0 l0_0.length c0_0] 163 (0, 0)) (by (with_reducible repeat (first | refine blk_drewN ?_ _ | refine blk_drew ?_ | refine blk_alloc ?_ _)); exact BK699.out) hb); have n2_ := Aside0.mk (below_step (by repeat (first | (with_reducible first | exact HB.out | apply below_alloc | apply pw_below_drewN | apply below_drew1 | refine below_set ?_ GE699.out) | exact HB.out)) hb); clear BK699; clear HB; have HO702 := n0_; have BK699 := n1_; have HB := n2_; clear n0_ n1_ n2_; clear hb ho9))
        go_ret3
        exact ⟨_, by first | rfl | (simp [errW_none, errW_some] <;> rfl) | (simp [*, errW_none, errW_some] <;> rfl), by (with_reducible repeat (first | apply Kd.R_alloc | apply Kd.R_drewN | apply Kd.R_drew)); exact HO702.out, by repeat (first | (with_reducible first | exact HB.out | apply below_alloc | apply pw_below_drewN | apply below_drew1 | refine below_set ?_ GE699.out) | exact HB.out)⟩
      · replace c7 := Bool.eq_false_iff.mpr c7
        subst c7
        have H1 : (spec_l2View_page.l0 kj2 a1 (([] : List Int)) 0 l0_0) = some (r1, r2, r3) := by rw [if_neg (show ¬ (false = true) by decide)] at H; exact H
        clear H
        have H := H1
        clear H1
        obtain ⟨y703, hy703⟩ : ∃ y_ : List Int, y_ = (([] : List Int)) := ⟨_, rfl⟩
        replace H : (spec_l2View_page.l0 kj2 a1 y703 0 l0_0) = some (r1, r2, r3) := by first | (rw [hy703]; with_reducible exact H) | (have H2_ := (Option.bind_some _ _).symm.trans H; rw [hy703]; with_reducible exact H2_) | (have H2_ := (Option.bind_some _ _).symm.trans H; with_reducible exact H2_) | with_reducible exact H | (rw [hy703]; exact H) | exact H
        have Ny703 := Aside0.mk hy703
        clear hy703
        have H' := Aside0.mk H
        clear H
        go_wp2_with (first | ((with_reducible refine gate_dst (N := 20) rfl ?_); (try (refine gate_guard (by rfl) ?_; dsimp only)); refine Kd.R_lit (Kd.int .u8) _ 5 ?hg (N := 20) ?hd (xs := ([] : List Int)) (inner := []) (ok := fun _ => True) (okp := fun _ => True) ?hr ?hp (fun _ hk => hk) trivial (Below.refl _ _) (Nat.le_refl _) (by simp) ?_; (case hd => rfl); (case hg => rfl); (case hr => first | (go_simp; done) | (go_simp; rfl)); (case hp => exact (Reps.none _ _)); intro v704 w10 ho11 hb hg_ hnew_; clear hg_ hnew_; (first | rw [← Ny703.out] at ho11 | (simp only [Int.reduceToNat] at ho11; rw [← Ny703.out] at ho11)); have n0_ := Aside0.mk (Kd.R_lower ho11 (below_size (by repeat (first | (with_reducible first | exact HB.out | apply below_alloc | apply pw_below_drewN | apply below_drew1 | refine below_set ?_ GE699.out) | exact HB.out)))); have n1_ := Aside0.mk (blk_below (g := gb699) (o := .cells #[.slice A0_0 l0_0.length c0_0] 163 (0, 0)) (by (with_reducible repeat (first | refine blk_drewN ?_ _ | refine blk_drew ?_ | refine blk_alloc ?_ _)); exact BK699.out) hb); have n2_ := Aside0.mk (below_step (by repeat (first | (with_reducible first | exact HB.out | apply below_alloc | apply pw_below_drewN | apply below_drew1 | refine below_set ?_ GE699.out) | exact HB.out)) hb); clear BK699; clear HB; have HO705 := n0_; have BK699 := n1_; have HB := n2_; clear n0_ n1_ n2_; clear hb ho11))
        go_loopg [7, 8] kj2 (fun kq v7 v8 w' => ∃ (x7_2 : List Int) (x8_2 : Int), v8 = .int .i64 x8_2 ∧ Aside0 (spec_l2View_page.l0 kq a1 x7_2 x8_2 l0_0 = some (r1, r2, r3)) ∧ Aside0 (kq ≤ kj2) ∧ Aside0 (Kd.R (Kd.int .u8) 5 w' w.heap.size (fun _ => True) v7 x7_2) ∧ Aside0 (w'.heap[gb699]? = some (.cells #[(.slice A0_0 l0_0.length c0_0)] 163 (0, 0))) ∧ Aside0 (Below w.heap.size w w'))
        case atStart => exact ⟨(y703), (0), (by first | rfl | (simp; done) | (simp [*]; done)), H', ⟨Nat.le_refl _⟩, ⟨by (with_reducible repeat (first | apply Kd.R_alloc | apply Kd.R_drewN | apply Kd.R_drew)); exact HO705.out⟩, ⟨by (with_reducible repeat (first | refine blk_drewN ?_ _ | refine blk_drew ?_ | refine blk_alloc ?_ _)); exact BK699.out⟩, ⟨by repeat (first | (with_reducible first | exact HB.out | apply below_alloc | apply pw_below_drewN | apply below_drew1 | refine below_set ?_ GE699.out) | exact HB.out)⟩⟩
        case round =>
          clear H'
          try clear c1
          try clear p2
          try clear c5
          try clear c5b0
          try clear p6
          try clear c7
          try clear c11
          try clear hcz6_0
          try clear hfz6_0
          try clear p2
          try clear p6
          obtain ⟨x7_2, x8_2, rfl, HA, HK2, HO_7, BK699, HB⟩ := hrel
          cases gk with
          | zero => exact absurd HA.out (by simp [spec_l2View_page.l0])
          | succ k2 =>
            have H := HA.out
            clear HA
            simp only [spec_l2View_page.l0] at H
            by_cases c12 : x8_2 < 4
            · rw [if_pos c12] at H
              have c12b0 : decide (x8_2 < 4) = true := decide_eq_true c12
              clear c12
              obtain ⟨ji13, hji13⟩ : ∃ j_ : Int, (wrap64 ((wrap64 (4 * a1)) + x8_2)) = j_ := ⟨_, rfl⟩
              replace H : (if 0 ≤ (ji13) then (if (ji13) < (l0_0.length : Int) then (if x7_2.length + (rd_L2 l0_0 (ji13)).length < 140737488355328 then (spec_l2View_page.l0 k2 a1 (x7_2 ++ (rd_L2 l0_0 (ji13))) (wrap64 (x8_2 + 1)) l0_0) else (none)) else (none)) else (none)) = some (r1, r2, r3) := by first | (rw [hji13] at H; exact H) | (simp only [hji13] at H ⊢; exact H)
              have hji13w : (IntKind.i64.wrap ((wrap64 (4 * a1)) + x8_2)) = ji13 := (i64_w _).trans hji13
              by_cases c14 : 0 ≤ (ji13)
              · rw [if_pos c14] at H
                have c14b0 : decide (0 ≤ (ji13)) = true := decide_eq_true c14
                clear c14
                by_cases c15 : (ji13) < (l0_0.length : Int)
                · rw [if_pos c15] at H
                  have c15b0 : decide ((ji13) < (l0_0.length : Int)) = true := decide_eq_true c15
                  clear c15
                  by_cases c16 : x7_2.length + (rd_L2 l0_0 (ji13)).length < 140737488355328
                  · rw [if_pos c16] at H
                    have LMc16 := Aside0.mk c16
                    clear c16
                    obtain ⟨y707, hy707⟩ : ∃ y_ : List Int, y_ = (x7_2 ++ (rd_L2 l0_0 (ji13))) := ⟨_, rfl⟩
                    replace H : (spec_l2View_page.l0 k2 a1 y707 (wrap64 (x8_2 + 1)) l0_0) = some (r1, r2, r3) := by first | (rw [hy707]; with_reducible exact H) | (have H2_ := (Option.bind_some _ _).symm.trans H; rw [hy707]; with_reducible exact H2_) | (have H2_ := (Option.bind_some _ _).symm.trans H; with_reducible exact H2_) | with_reducible exact H | (rw [hy707]; exact H) | exact H
                    have Ny707 := Aside0.mk hy707
                    clear hy707
                    have H' := Aside0.mk H
                    clear H
                    have hcz17_0 : wr.cell? ⟨gb699, 0, none⟩ = some (.slice A0_0 l0_0.length c0_0) := (blk_cell BK699.out 0).trans rfl
                    have hfz17_0 := blk_frozen BK699.out 0
                    have p706 : 0 ≤ ((ji13) : Int) := of_decide_eq_true (by first | (with_reducible assumption) | assumption)
                    have q706 : (ji13) < (l0_0.length : Int) := of_decide_eq_true (by first | (with_reducible assumption) | assumption)
                    obtain ⟨ad706, A706_0, c706_0, e706, hx706_0, hl706_0, hi706_0⟩ := at_L2 HR0_0.out (ji13) p706 q706
                    cases e706
                    replace hx706_0 := (HB.out.cell (World.block_lt_of_cell? w _ hx706_0)).trans hx706_0
                    have HR706_0 := Aside0.mk hi706_0
                    have HC706_0 := Aside0.mk hl706_0
                    clear hi706_0 hl706_0
                    replace p706 := eq_true p706
                    replace q706 := eq_true q706
                    go_wp2_with (first | ((with_reducible refine gate_builtin (b := .append) (xs := #[.tmp 25, .tmp 33]) rfl ?_); (try (refine gate_guard (by rfl) ?_; dsimp only)); at_builtin; refine Kd.R_append_rows (Kd.int .u8) (w0 := w) w.heap.size rfl (.tmp 25) (.tmp 33) 22 5 (.int .u8 0) 1 rfl Try.underlying22 info5 rfl (by decide) (by omega) u7 x7_2 (rd_L2 l0_0 (ji13)) _ _ _ (fun _ => True) (fun _ => False) rfl rfl ?aO ?aR (fun _ _ h => h) (fun _ h => h.elim) ?aF ?aB ?aS ?aL ?_; (case aR => repeat (first | exact (Kd.C_below HR706_0.out HB.out) | (with_reducible refine Kd.C_alloc ?_ _) | (with_reducible refine Kd.C_drewN ?_ _) | (with_reducible refine Kd.C_drew ?_))); (case aB => exact (by repeat (first | (with_reducible first | exact HB.out | apply below_alloc | apply pw_below_drewN | apply below_drew1 | refine below_set ?_ GE699.out) | exact HB.out))); (case aF => exact (fun _ _ => trivial)); (case aO => exact (by (with_reducible repeat (first | apply Kd.R_alloc | apply Kd.R_drewN | apply Kd.R_drew)); exact HO_7.out)); (case aS => exact (below_size (by repeat (first | (with_reducible first | exact HB.out | apply below_alloc | apply pw_below_drewN | apply below_drew1 | refine below_set ?_ GE699.out) | exact HB.out)))); (case aL => have := LMc16.out; omega); intro v708 w18 ho hb hg hat; rw [← Ny707.out] at ho; have n0_ := Aside0.mk (blk_grown (g := gb699) (o := .cells #[.slice (some ad706) l0_0.length c0_0] 163 (0, 0)) (by (with_reducible repeat (first | refine blk_drewN ?_ _ | refine blk_drew ?_ | refine blk_alloc ?_ _)); exact BK699.out) hg (Kd.R_ne HO_7.out BK699.out (by decide))); have n1_ := Aside0.mk (hb); have n2_ := Aside0.mk (ho); clear BK699; clear HB; clear HO_7; have BK699 := n0_; have HB := n1_; have HO709 := n2_; clear n0_ n1_ n2_; clear ho hb hg hat))
                    go_roundg k2
                    case measure => have := HJ2.out; have := HK2.out; omega
                    case rel => exact ⟨(y707), (wrap64 (x8_2 + 1)), (by first | rfl | (simp; done) | (simp [*]; done)), H', ⟨by have := HJ2.out; have := HK2.out; omega⟩, ⟨by (with_reducible repeat (first | apply Kd.R_alloc | apply Kd.R_drewN | apply Kd.R_drew)); exact HO709.out⟩, ⟨by (with_reducible repeat (first | refine blk_drewN ?_ _ | refine blk_drew ?_ | refine blk_alloc ?_ _)); exact BK699.out⟩, ⟨by repeat (first | (with_reducible first | exact HB.out | apply below_alloc | apply pw_below_drewN | apply below_drew1 | refine below_set ?_ GE699.out) | exact HB.out)⟩⟩
                  · rw [if_neg c16] at H
                    exact absurd H (by simp)
                · rw [if_neg c15] at H
                  exact absurd H (by simp)
              · rw [if_neg c14] at H
                exact absurd H (by simp)
            · rw [if_neg c12] at H
              have c12b0 : decide (x8_2 < 4) = false := decide_eq_false c12
              clear c12
              replace H := Option.bind_eq_some_iff.mp H
              obtain ⟨⟨t710, t711, t712⟩, A190, H⟩ := H
              replace H : (some (t710, t711, t712)) = some (r1, r2, r3) := H
              have A19 := Aside0.mk A190
              clear A190
              simp only [Option.some.injEq, Prod.mk.injEq] at H
              obtain ⟨rfl, rfl, rfl⟩ := H
              obtain ⟨Ao20, co20, eo20⟩ := Kd.R_slice HO_7.out
              subst eo20
              go_wp2_with (first | ((with_reducible refine gate_callee (f := 14) rfl ?_); refine goesL_ (some 37) rfl rfl Try.func14 (by kernel_rfl) rfl #[.int .i64 a1, .slice Ao20 x7_2.length co20] rfl (by (try simp only [List.map_toArray, List.map_cons, List.map_nil]); first | done | rfl | (simp only [List.length_drop, List.length_take]; rfl)) ?_; (with_reducible refine (spec_DecodePage.calls k2 a1 _ _ x7_2 t710 t711 t712 _ ?side1 ?side2 A19.out).mono ?_); (case side1 => repeat (first | exact (Kd.R_reads' HO_7.out).2.2 | (with_reducible refine Kd.C_alloc ?_ _) | (with_reducible refine Kd.C_drewN ?_ _) | (with_reducible refine Kd.C_drew ?_))); (case side2 => exact (Kd.R_reads' HO_7.out).2.1); rintro e w21 ⟨v713, rfl, ho0, hb⟩; refine ⟨_, rfl, ?_⟩; have n0_ := Aside0.mk (Kd.R_elder' (by (with_reducible repeat (first | apply Kd.R_alloc | apply Kd.R_drewN | apply Kd.R_drew)); exact HO_7.out) (Kd.R_base ho0) hb); have n1_ := Aside0.mk (Kd.R_lower (Kd.R_new' ho0 (Kd.R_lt (by (with_reducible repeat (first | apply Kd.R_alloc | apply Kd.R_drewN | apply Kd.R_drew)); exact HO_7.out))) (below_size (by repeat (first | (with_reducible first | exact HB.out | apply below_alloc | apply pw_below_drewN | apply below_drew1 | refine below_set ?_ GE699.out) | exact HB.out)))); have n2_ := Aside0.mk (blk_below (g := gb699) (o := .cells #[.slice A0_0 l0_0.length c0_0] 163 (0, 0)) (by (with_reducible repeat (first | refine blk_drewN ?_ _ | refine blk_drew ?_ | refine blk_alloc ?_ _)); exact BK699.out) hb); have n3_ := Aside0.mk (below_step (by repeat (first | (with_reducible first | exact HB.out | apply below_alloc | apply pw_below_drewN | apply below_drew1 | refine below_set ?_ GE699.out) | exact HB.out)) hb); clear HO_7; clear BK699; clear HB; have HO_7 := n0_; have HO714 := n1_; have BK699 := n2_; have HB := n3_; clear n0_ n1_ n2_ n3_; (try clear hb); (try clear hb2); (try clear hk); (try clear hi); (try clear ho0)))
              go_ret3
              exact ⟨_, by first | rfl | (simp [errW_none, errW_some] <;> rfl) | (simp [*, errW_none, errW_some] <;> rfl), by (with_reducible repeat (first | apply Kd.R_alloc | apply Kd.R_drewN | apply Kd.R_drew)); exact Kd.R_mono HO714.out (fun _ hk => trivial), by repeat (first | (with_reducible first | exact HB.out | apply below_alloc | apply pw_below_drewN | apply below_drew1 | refine below_set ?_ GE699.out) | exact HB.out)⟩

end Go.Proofs.Ytlopmffdebhpfaa.G

/-! ## G50 -/
namespace Go.Proofs.Ytlopmffdebhpfaa.G
open Go.RowKit Go.Proofs.YtlopmffdebhpfaaW.PrintWords Go.Proofs.YtlopmffdebhpfaaW.PrintLast Go.Proofs.YtlopmffdebhpfaaW.PrintMore
attribute [local go_sem] max2_int min2_int max_two min_two max_three min_three max_four min_four
set_option linter.unusedVariables false
set_option linter.unusedSimpArgs false

/-! ### spec_ReadPage: function 50 -/
def spec_ReadPage.f (k : Nat) (l0_0 : List (List Int)) (l0_1 : List (S185)) (a1 : Int) : Option (Int × List Int × Bool) := (spec_DiskOk.f k l0_0 l0_1).bind fun t716 => (if t716 = true then ((spec_l1Now.f k l0_0 l0_1).bind fun t717 => ((spec_l2View_page.f k t717 a1).bind fun bt721 => (some (bt721.1, bt721.2.1, bt721.2.2)))) else (some (0, (([] : List Int)), false)))
set_option maxHeartbeats 8000000 in
set_option maxRecDepth 100000 in
theorem spec_ReadPage.calls (k : Nat) (A0_0 : Option Addr) (c0_0 : Nat) (l0_0 : List (List Int)) (A0_1 : Option Addr) (c0_1 : Nat) (l0_1 : List (S185)) (a1 : Int) (r1 : Int) (r2 : List Int) (r3 : Bool) (w : World) (hr0_0 : Kd.C (Kd.slice 5 (Kd.int .u8)) w A0_0 l0_0.length l0_0) (hc0_0 : l0_0.length ≤ c0_0) (hr0_1 : Kd.C k185 w A0_1 l0_1.length l0_1) (hc0_1 : l0_1.length ≤ c0_1) (h : spec_ReadPage.f k l0_0 l0_1 a1 = some (r1, r2, r3)) :
    Calls Try.prog 50 #[.agg #[.slice A0_0 l0_0.length c0_0, .slice A0_1 l0_1.length c0_1], .int .i64 a1] w fun e w' => ∃ v1_ : Value, e = .returned (.tuple #[.int .i64 r1, v1_, .bool r3]) ∧ Kd.R (Kd.int .u8) 5 w' w.heap.size (fun _ => True) v1_ r2 ∧ Below w.heap.size w w' := by
  have hu44 := Try.underlying44
  have hu163 := Try.underlying163
  have HR0_0 := Aside0.mk hr0_0
  have HC0_0 := Aside0.mk hc0_0
  clear hr0_0 hc0_0
  have HR0_1 := Aside0.mk hr0_1
  have HC0_1 := Aside0.mk hc0_1
  clear hr0_1 hc0_1
  have HB := Aside0.mk (Below.refl w.heap.size w)
  have H : ((spec_DiskOk.f k l0_0 l0_1).bind fun t716 => (if t716 = true then ((spec_l1Now.f k l0_0 l0_1).bind fun t717 => ((spec_l2View_page.f k t717 a1).bind fun bt721 => (some (bt721.1, bt721.2.1, bt721.2.2)))) else (some (0, (([] : List Int)), false)))) = some (r1, r2, r3) := h
  clear h
  replace H := Option.bind_eq_some_iff.mp H
  obtain ⟨t716, A30, H⟩ := H
  replace H : (if t716 = true then ((spec_l1Now.f k l0_0 l0_1).bind fun t717 => ((spec_l2View_page.f k t717 a1).bind fun bt721 => (some (bt721.1, bt721.2.1, bt721.2.2)))) else (some (0, (([] : List Int)), false))) = some (r1, r2, r3) := H
  have A3 := Aside0.mk A30
  clear A30
  by_cases c4 : t716 = true
  · subst c4
    have H1 : ((spec_l1Now.f k l0_0 l0_1).bind fun t717 => ((spec_l2View_page.f k t717 a1).bind fun bt721 => (some (bt721.1, bt721.2.1, bt721.2.2)))) = some (r1, r2, r3) := by rw [if_pos rfl] at H; exact H
    clear H
    have H := H1
    clear H1
    replace H := Option.bind_eq_some_iff.mp H
    obtain ⟨t717, A50, H⟩ := H
    replace H : ((spec_l2View_page.f k t717 a1).bind fun bt721 => (some (bt721.1, bt721.2.1, bt721.2.2))) = some (r1, r2, r3) := H
    have A5 := Aside0.mk A50
    clear A50
    replace H := Option.bind_eq_some_iff.mp H
    obtain ⟨⟨t721, t722, t725⟩, A60, H⟩ := H
    replace H : (some (t721, t722, t725)) = some (r1, r2, r3) := H
    have A6 := Aside0.mk A60
    clear A60
    simp only [Option.some.injEq, Prod.mk.injEq] at H
    obtain ⟨rfl, rfl, rfl⟩ := H
    go_enter Try.func50, Try.ntmps50
    go_wp2_with (first | ((with_reducible refine gate_dst (N := 2) rfl ?_); refine box_event ?hg (N := 2) ?hd (cs := #[.slice A0_0 l0_0.length c0_0, .slice A0_1 l0_1.length c0_1]) (t := 44) ?hr ?_; (case hd => rfl); (case hg => rfl); (case hr => first | (go_simp; done) | (go_simp; rfl)); intro gb715 hg w7 hbox hb; have n0_ := Aside0.mk (below_step (by repeat (first | (with_reducible first | exact HB.out | apply below_alloc | apply pw_below_drewN | apply below_drew1) | exact HB.out)) hb); have n1_ := Aside0.mk (hbox); have n2_ := Aside0.mk ((by rw [hg]; exact (below_size (by repeat (first | (with_reducible first | exact HB.out | apply below_alloc | apply pw_below_drewN | apply below_drew1) | exact HB.out))) : w.heap.size ≤ gb715)); have n3_ := Aside0.mk ((by rw [hg]; exact (below_size (by repeat (first | (with_reducible first | exact HB.out | apply below_alloc | apply pw_below_drewN | apply below_drew1) | exact HB.out))) : w.heap.size ≤ gb715)); clear HB; have HB := n0_; have BK715 := n1_; have GW715 := n2_; have GE715 := n3_; clear n0_ n1_ n2_ n3_; clear hb hbox hg; have hcz8_0 : w7.cell? ⟨gb715, 0, none⟩ = some (.slice A0_0 l0_0.length c0_0) := (blk_cell BK715.out 0).trans rfl; have hcz8_1 : w7.cell? ⟨gb715, 1, none⟩ = some (.slice A0_1 l0_1.length c0_1) := (blk_cell BK715.out 1).trans rfl; have hfz8_0 := blk_frozen BK715.out 0; have hfz8_1 := blk_frozen BK715.out 1) | ((with_reducible refine gate_callee (f := 83) rfl ?_); refine goesL_ (some 9) rfl rfl Try.func83 (by kernel_rfl) rfl #[.agg #[.slice A0_0 l0_0.length c0_0, .slice A0_1 l0_1.length c0_1]] rfl (by (try simp only [List.map_toArray, List.map_cons, List.map_nil]); first | done | rfl | (simp only [List.length_drop, List.length_take]; rfl)) ?_; (with_reducible refine (spec_DiskOk.calls k _ _ l0_0 _ _ l0_1 true _ ?side1 ?side2 ?side3 ?side4 A3.out).mono ?_); (case side1 => repeat (first | exact (Kd.C_below HR0_0.out HB.out) | (with_reducible refine Kd.C_alloc ?_ _) | (with_reducible refine Kd.C_drewN ?_ _) | (with_reducible refine Kd.C_drew ?_))); (case side2 => exact HC0_0.out); (case side3 => repeat (first | exact (Kd.C_below HR0_1.out HB.out) | (with_reducible refine Kd.C_alloc ?_ _) | (with_reducible refine Kd.C_drewN ?_ _) | (with_reducible refine Kd.C_drew ?_))); (case side4 => exact HC0_1.out); rintro e w9 ⟨rfl, hb⟩; refine ⟨_, rfl, ?_⟩; have n0_ := Aside0.mk (blk_below (g := gb715) (o := .cells #[.slice A0_0 l0_0.length c0_0, .slice A0_1 l0_1.length c0_1] 44 (0, 0)) (by (with_reducible repeat (first | refine blk_drewN ?_ _ | refine blk_drew ?_ | refine blk_alloc ?_ _)); exact BK715.out) hb); have n1_ := Aside0.mk (below_step (by repeat (first | (with_reducible first | exact HB.out | apply below_alloc | apply pw_below_drewN | apply below_drew1 | refine below_set ?_ GE715.out) | exact HB.out)) hb); clear BK715; clear HB; have BK715 := n0_; have HB := n1_; clear n0_ n1_; (try clear hb); (try clear hb2); (try clear hk); (try clear hi); have hcz10_0 : w9.cell? ⟨gb715, 0, none⟩ = some (.slice A0_0 l0_0.length c0_0) := (blk_cell BK715.out 0).trans rfl; have hcz10_1 : w9.cell? ⟨gb715, 1, none⟩ = some (.slice A0_1 l0_1.length c0_1) := (blk_cell BK715.out 1).trans rfl; have hfz10_0 := blk_frozen BK715.out 0; have hfz10_1 := blk_frozen BK715.out 1) | ((with_reducible refine gate_callee (f := 84) rfl ?_); refine goesL_ (some 13) rfl rfl Try.func84 (by kernel_rfl) rfl #[.agg #[.slice A0_0 l0_0.length c0_0, .slice A0_1 l0_1.length c0_1]] rfl (by (try simp only [List.map_toArray, List.map_cons, List.map_nil]); first | done | rfl | (simp only [List.length_drop, List.length_take]; rfl)) ?_; (with_reducible refine (spec_l1Now.calls k (fun k_ => k_ < w.heap.size) _ _ l0_0 (fun k_ => k_ < w.heap.size) _ _ l0_1 t717 _ ?side1 ?side2 A5.out).mono ?_); (case side1 => exact Kd.V_mk HC0_0.out (Kd.F_below (Kd.C_F (Kd.heap_slice 5 (Kd.heap_int .u8)) HR0_0.out) (by repeat (first | (with_reducible first | exact HB.out | apply below_alloc | apply pw_below_drewN | apply below_drew1 | refine below_set ?_ GE715.out) | exact HB.out)))); (case side2 => exact Kd.V_mk HC0_1.out (Kd.F_below (Kd.C_F k185_heap HR0_1.out) (by repeat (first | (with_reducible first | exact HB.out | apply below_alloc | apply pw_below_drewN | apply below_drew1 | refine below_set ?_ GE715.out) | exact HB.out)))); rintro e w11 ⟨v718, rfl, ho0, hb⟩; refine ⟨_, rfl, ?_⟩; have n0_ := Aside0.mk (Kd.N_lower (Kd.N_mono (ok' := fun k_ => k_ ≠ gb715) ho0 (fun k_ hk_ => Or.elim hk_ (fun hs_ => Or.elim hs_ (fun hs_ => fun e_ => Nat.not_le.2 hs_ (by rw [e_]; exact GW715.out)) (fun hs_ => fun e_ => Nat.not_le.2 hs_ (by rw [e_]; exact GW715.out))) (fun hn_ => (Kd.freshB (g := gb715) (o := .cells #[.slice A0_0 l0_0.length c0_0, .slice A0_1 l0_1.length c0_1] 44 (0, 0)) (by (with_reducible repeat (first | refine blk_drewN ?_ _ | refine blk_drew ?_ | refine blk_alloc ?_ _)); exact BK715.out) k_ hn_)))) (below_size (by repeat (first | (with_reducible first | exact HB.out | apply below_alloc | apply pw_below_drewN | apply below_drew1 | refine below_set ?_ GE715.out) | exact HB.out)))); have n1_ := Aside0.mk (blk_below (g := gb715) (o := .cells #[.slice A0_0 l0_0.length c0_0, .slice A0_1 l0_1.length c0_1] 44 (0, 0)) (by (with_reducible repeat (first | refine blk_drewN ?_ _ | refine blk_drew ?_ | refine blk_alloc ?_ _)); exact BK715.out) hb); have n2_ := Aside0.mk (below_step (by repeat (first | (with_reducible first | exact HB.out | apply below_alloc | apply pw_below_drewN | apply below_drew1 | refine below_set ?_ GE715.out) | exact HB.out)) hb); clear BK715; clear HB; have HO719 := n0_; have BK715 := n1_; have HB := n2_; clear n0_ n1_ n2_; (try clear hb); (try clear hb2); (try clear hk); (try clear hi); (try clear ho0); obtain ⟨Ao12, co12, eo12⟩ := Kd.N_slice HO719.out; subst eo12) | ((with_reducible refine gate_dst (N := 7) rfl ?_); refine box_event ?hg (N := 7) ?hd (cs := #[.slice none 0 0]) (t := 163) ?hr ?_; (case hd => rfl); (case hg => rfl); (case hr => first | (go_simp; done) | (go_simp; rfl)); intro gb720 hg w13 hbox hb; have n0_ := Aside0.mk (Kd.N_below (Kd.N_elderB (by (with_reducible repeat (first | apply Kd.N_alloc | apply Kd.N_drewN | apply Kd.N_drew)); exact HO719.out) gb720 (Nat.le_of_eq hg.symm)) hb); have n1_ := Aside0.mk (blk_below (g := gb715) (o := .cells #[.slice A0_0 l0_0.length c0_0, .slice A0_1 l0_1.length c0_1] 44 (0, 0)) (by (with_reducible repeat (first | refine blk_drewN ?_ _ | refine blk_drew ?_ | refine blk_alloc ?_ _)); exact BK715.out) hb); have n2_ := Aside0.mk (below_step (by repeat (first | (with_reducible first | exact HB.out | apply below_alloc | apply pw_below_drewN | apply below_drew1 | refine below_set ?_ GE715.out) | exact HB.out)) hb); have n3_ := Aside0.mk (hbox); have n4_ := Aside0.mk ((by rw [hg]; exact (below_size (by repeat (first | (with_reducible first | exact HB.out | apply below_alloc | apply pw_below_drewN | apply below_drew1 | refine below_set ?_ GE715.out) | exact HB.out))) : w.heap.size ≤ gb720)); have n5_ := Aside0.mk ((by rw [hg]; exact (below_size (by repeat (first | (with_reducible first | exact HB.out | apply below_alloc | apply pw_below_drewN | apply below_drew1 | refine below_set ?_ GE715.out) | exact HB.out))) : w.heap.size ≤ gb720)); have n6_ := Aside0.mk ((by rw [hg]; exact Nat.ne_of_lt (blk_lt (g := gb715) (o := .cells #[.slice A0_0 l0_0.length c0_0, .slice A0_1 l0_1.length c0_1] 44 (0, 0)) (by (with_reducible repeat (first | refine blk_drewN ?_ _ | refine blk_drew ?_ | refine blk_alloc ?_ _)); exact BK715.out)) : gb715 ≠ gb720)); have n7_ := Aside0.mk ((by rw [hg]; exact Nat.ne_of_gt (blk_lt (g := gb715) (o := .cells #[.slice A0_0 l0_0.length c0_0, .slice A0_1 l0_1.length c0_1] 44 (0, 0)) (by (with_reducible repeat (first | refine blk_drewN ?_ _ | refine blk_drew ?_ | refine blk_alloc ?_ _)); exact BK715.out)) : gb720 ≠ gb715)); clear HO719; clear BK715; clear HB; have HO719 := n0_; have BK715 := n1_; have HB := n2_; have BK720 := n3_; have GW720 := n4_; have GE720 := n5_; have NB715_720 := n6_; have NB720_715 := n7_; clear n0_ n1_ n2_ n3_ n4_ n5_ n6_ n7_; clear hb hbox hg; have hnb14 := NB720_715.out; have hnc14 := NB715_720.out; have hcz15_0 : w13.cell? ⟨gb720, 0, none⟩ = some (.slice none 0 0) := (blk_cell BK720.out 0).trans rfl; have hfz15_0 := blk_frozen BK720.out 0) | ((with_reducible refine gate_callee (f := 117) rfl ?_); refine goesL_ (some 17) rfl rfl Try.func117 (by kernel_rfl) rfl #[.agg #[.slice Ao12 t717.length co12], .int .i64 a1] rfl (by (try simp only [List.map_toArray, List.map_cons, List.map_nil]); first | done | rfl | (simp only [List.length_drop, List.length_take]; rfl)) ?_; (with_reducible refine (spec_l2View_page.calls k _ _ t717 a1 t721 t722 t725 _ ?side1 ?side2 A6.out).mono ?_); (case side1 => refine (Kd.N_reads' (e := 22) (base := w.heap.size) (ok := fun k_ => (k_ ≠ gb715 ∧ k_ ≠ gb720)) (n := t717.length) (c := co12) ?_).2.2; exact (by (with_reducible repeat (first | apply Kd.N_alloc | apply Kd.N_drewN | apply Kd.N_drew)); exact (Kd.N_mono (Kd.N_far (p := ⟨gb720, 0, none⟩) (Kd.N_mono HO719.out (fun k_ hk => (⟨hk, hk.2⟩ : _ ∧ k_ ≠ gb720))) (fun _ hk => hk.2) (.slice Ao12 t717.length co12)) (fun _ h_ => h_.1)))); (case side2 => exact (Kd.N_reads' HO719.out).2.1); rintro e w16 ⟨v723, rfl, ho0, hb⟩; refine ⟨_, rfl, ?_⟩; have n0_ := Aside0.mk (Kd.N_elder' (by (with_reducible repeat (first | apply Kd.N_alloc | apply Kd.N_drewN | apply Kd.N_drew)); exact (Kd.N_mono (Kd.N_far (p := ⟨gb720, 0, none⟩) (Kd.N_mono HO719.out (fun k_ hk => (⟨hk, hk.2⟩ : _ ∧ k_ ≠ gb720))) (fun _ hk => hk.2) (.slice Ao12 t717.length co12)) (fun _ h_ => h_.1))) (Kd.R_base ho0) hb); have n1_ := Aside0.mk (Kd.R_lower ho0 (below_size (by repeat (first | (with_reducible first | exact HB.out | apply below_alloc | apply pw_below_drewN | apply below_drew1 | refine below_set ?_ GE715.out | refine below_set ?_ GE720.out) | exact HB.out)))); have n2_ := Aside0.mk (blk_below (g := gb715) (o := .cells #[.slice A0_0 l0_0.length c0_0, .slice A0_1 l0_1.length c0_1] 44 (0, 0)) (by (with_reducible repeat (first | refine blk_drewN ?_ _ | refine blk_drew ?_ | refine blk_alloc ?_ _)); refine blk_far ?_ NB715_720.out _; (with_reducible repeat (first | refine blk_drewN ?_ _ | refine blk_drew ?_ | refine blk_alloc ?_ _)); exact BK715.out) hb); have n3_ := Aside0.mk (blk_below (g := gb720) (o := .cells #[.slice Ao12 t717.length co12] 163 (0, 0)) (by (with_reducible repeat (first | refine blk_drewN ?_ _ | refine blk_drew ?_ | refine blk_alloc ?_ _)); refine blk_put (cs := #[.slice none 0 0]) ?_ 0 _ rfl; (with_reducible repeat (first | refine blk_drewN ?_ _ | refine blk_drew ?_ | refine blk_alloc ?_ _)); exact BK720.out) hb); have n4_ := Aside0.mk (below_step (by repeat (first | (with_reducible first | exact HB.out | apply below_alloc | apply pw_below_drewN | apply below_drew1 | refine below_set ?_ GE715.out | refine below_set ?_ GE720.out) | exact HB.out)) hb); clear HO719; clear BK715; clear BK720; clear HB; have HO719 := n0_; have HO724 := n1_; have BK715 := n2_; have BK720 := n3_; have HB := n4_; clear n0_ n1_ n2_ n3_ n4_; (try clear hb); (try clear hb2); (try clear hk); (try clear hi); (try clear ho0)))
    go_ret3
    exact ⟨_, by first | rfl | (simp [errW_none, errW_some] <;> rfl) | (simp [*, errW_none, errW_some] <;> rfl), by (with_reducible repeat (first | apply Kd.R_alloc | apply Kd.R_drewN | apply Kd.R_drew)); exact HO724.out, by repeat (first | (with_reducible first | exact HB.out | apply below_alloc | apply pw_below_drewN | apply below_drew1 | refine below_set ?_ GE715.out | refine below_set ?_ GE720.out) | exact HB.out)⟩
  · replace c4 := Bool.eq_false_iff.mpr c4
    subst c4
    have H1 : (some (0, (([] : List Int)), false)) = some (r1, r2, r3) := by rw [if_neg (show ¬ (false = true) by decide)] at H; exact H
    clear H
    have H := H1
    clear H1
    obtain ⟨y726, hy726⟩ : ∃ y_ : List Int, y_ = (([] : List Int)) := ⟨_, rfl⟩
    replace H : (some (0, y726, false)) = some (r1, r2, r3) := by first | (rw [hy726]; with_reducible exact H) | (have H2_ := (Option.bind_some _ _).symm.trans H; rw [hy726]; with_reducible exact H2_) | (have H2_ := (Option.bind_some _ _).symm.trans H; with_reducible exact H2_) | with_reducible exact H | (rw [hy726]; exact H) | exact H
    have Ny726 := Aside0.mk hy726
    clear hy726
    simp only [Option.some.injEq, Prod.mk.injEq] at H
    obtain ⟨rfl, rfl, rfl⟩ := H
    go_enter Try.func50, Try.ntmps50
    go_wp2_with (first | ((with_reducible refine gate_dst (N := 2) rfl ?_); refine box_event ?hg (N := 2) ?hd (cs := #[.slice A0_0 l0_0.length c0_0, .slice A0_1 l0_1.length c0_1]) (t := 44) ?hr ?_; (case hd => rfl); (case hg => rfl); (case hr => first | (go_simp; done) | (go_simp; rfl)); intro gb715 hg w17 hbox hb; have n0_ := Aside0.mk (below_step (by repeat (first | (with_reducible first | exact HB.out | apply below_alloc | apply pw_below_drewN | apply below_drew1) | exact HB.out)) hb); have n1_ := Aside0.mk (hbox); have n2_ := Aside0.mk ((by rw [hg]; exact (below_size (by repeat (first | (with_reducible first | exact HB.out | apply below_alloc | apply pw_below_drewN | apply below_drew1) | exact HB.out))) : w.heap.size ≤ gb715)); have n3_ := Aside0.mk ((by rw [hg]; exact (below_size (by repeat (first | (with_reducible first | exact HB.out | apply below_alloc | apply pw_below_drewN | apply below_drew1) | exact HB.out))) : w.heap.size ≤ gb715)); clear HB; have HB := n0_; have BK715 := n1_; have GW715 := n2_; have GE715 := n3_; clear n0_ n1_ n2_ n3_; clear hb hbox hg; have hcz18_0 : w17.cell? ⟨gb715, 0, none⟩ = some (.slice A0_0 l0_0.length c0_0) := (blk_cell BK715.out 0).trans rfl; have hcz18_1 : w17.cell? ⟨gb715, 1, none⟩ = some (.slice A0_1 l0_1.length c0_1) := (blk_cell BK715.out 1).trans rfl; have hfz18_0 := blk_frozen BK715.out 0; have hfz18_1 := blk_frozen BK715.out 1) | ((with_reducible refine gate_callee (f := 83) rfl ?_); refine goesL_ (some 9) rfl rfl Try.func83 (by kernel_rfl) rfl #[.agg #[.slice A0_0 l0_0.length c0_0, .slice A0_1 l0_1.length c0_1]] rfl (by (try simp only [List.map_toArray, List.map_cons, List.map_nil]); first | done | rfl | (simp only [List.length_drop, List.length_take]; rfl)) ?_; (with_reducible refine (spec_DiskOk.calls k _ _ l0_0 _ _ l0_1 false _ ?side1 ?side2 ?side3 ?side4 A3.out).mono ?_); (case side1 => repeat (first | exact (Kd.C_below HR0_0.out HB.out) | (with_reducible refine Kd.C_alloc ?_ _) | (with_reducible refine Kd.C_drewN ?_ _) | (with_reducible refine Kd.C_drew ?_))); (case side2 => exact HC0_0.out); (case side3 => repeat (first | exact (Kd.C_below HR0_1.out HB.out) | (with_reducible refine Kd.C_alloc ?_ _) | (with_reducible refine Kd.C_drewN ?_ _) | (with_reducible refine Kd.C_drew ?_))); (case side4 => exact HC0_1.out); rintro e w19 ⟨rfl, hb⟩; refine ⟨_, rfl, ?_⟩; have n0_ := Aside0.mk (blk_below (g := gb715) (o := .cells #[.slice A0_0 l0_0.length c0_0, .slice A0_1 l0_1.length c0_1] 44 (0, 0)) (by (with_reducible repeat (first | refine blk_drewN ?_ _ | refine blk_drew ?_ | refine blk_alloc ?_ _)); exact BK715.out) hb); have n1_ := Aside0.mk (below_step (by repeat (first | (with_reducible first | exact HB.out | apply below_alloc | apply pw_below_drewN | apply below_drew1 | refine below_set ?_ GE715.out) | exact HB.out)) hb); clear BK715; clear HB; have BK715 := n0_; have HB := n1_; clear n0_ n1_; (try clear hb); (try clear hb2); (try clear hk); (try clear hi)) | ((with_reducible refine gate_dst (N := 11) rfl ?_); refine Kd.R_lit (Kd.int .u8) _ 5 ?hg (N := 11) ?hd (xs := ([] : List Int)) (inner := []) (ok := fun _ => True) (okp := fun _ => True) ?hr ?hp (fun _ hk => hk) trivial (Below.refl _ _) (Nat.le_refl _) (by simp) ?_; (case hd => rfl); (case hg => rfl); (case hr => first | (go_simp; done) | (go_simp; rfl)); (case hp => exact (Reps.none _ _)); intro v727 w20 ho21 hb hg_ hnew_; clear hg_ hnew_; (first | rw [← Ny726.out] at ho21 | (simp only [Int.reduceToNat] at ho21; rw [← Ny726.out] at ho21)); have n0_ := Aside0.mk (Kd.R_lower ho21 (below_size (by repeat (first | (with_reducible first | exact HB.out | apply below_alloc | apply pw_below_drewN | apply below_drew1 | refine below_set ?_ GE715.out) | exact HB.out)))); have n1_ := Aside0.mk (blk_below (g := gb715) (o := .cells #[.slice A0_0 l0_0.length c0_0, .slice A0_1 l0_1.length c0_1] 44 (0, 0)) (by (with_reducible repeat (first | refine blk_drewN ?_ _ | refine blk_drew ?_ | refine blk_alloc ?_ _)); exact BK715.out) hb); have n2_ := Aside0.mk (below_step (by repeat (first | (with_reducible first | exact HB.out | apply below_alloc | apply pw_below_drewN | apply below_drew1 | refine below_set ?_ GE715.out) | exact HB.out)) hb); clear BK715; clear HB; have HO728 := n0_; have BK715 := n1_; have HB := n2_; clear n0_ n1_ n2_; clear hb ho21))
    go_ret3
    exact ⟨_, by first | rfl | (simp [errW_none, errW_some] <;> rfl) | (simp [*, errW_none, errW_some] <;> rfl), by (with_reducible repeat (first | apply Kd.R_alloc | apply Kd.R_drewN | apply Kd.R_drew)); exact HO728.out, by repeat (first | (with_reducible first | exact HB.out | apply below_alloc | apply pw_below_drewN | apply below_drew1 | refine below_set ?_ GE715.out) | exact HB.out)⟩

end Go.Proofs.Ytlopmffdebhpfaa.G

/-! ## Law10 -/
namespace Go.Proofs.Ytlopmffdebhpfaa.G
open Go.RowKit Go.Proofs.YtlopmffdebhpfaaW.PrintWords Go.Proofs.YtlopmffdebhpfaaW.PrintLast Go.Proofs.YtlopmffdebhpfaaW.PrintMore
open Go.Proofs.Ytlopmffdebhpfaa.Pure (marks marks_length mark_l0)
set_option linter.unusedVariables false
set_option linter.unusedSimpArgs false

set_option maxHeartbeats 4000000 in
set_option maxRecDepth 100000 in
theorem laws_FnExactReadPage.small (k : Nat) (A0 : Option Addr) (c0 : Nat) (l0 : List (List Int)) (A1 : Option Addr) (c1 : Nat) (l1 : List S184) (x s : Int) (w : World) (hr0 : Kd.C (Kd.slice 5 (Kd.int .u8)) w A0 l0.length l0) (hc0 : l0.length ≤ c0) (hr1 : Kd.C k184 w A1 l1.length l1) (hc1 : l1.length ≤ c1) (hsz : laws_szDisk.f k l0 l1 1048576 = some s) (hs : s < 0) :
    Calls Try.prog 10 #[.agg #[.slice A0 l0.length c0, .slice A1 l1.length c1], .int .i64 x] w fun e w' => e = .returned (.bool true) ∧ Below w.heap.size w w' := by
  have hu39 := Try.underlying39
  have HR0 := Aside0.mk hr0
  have HR1 := Aside0.mk hr1
  have HC0 := Aside0.mk hc0
  have HC1 := Aside0.mk hc1
  have N0 := Aside0.mk hsz
  clear hr0 hr1 hc0 hc1 hsz
  go_enter Try.func10, Try.ntmps10
  go_wp2_with (first | ((with_reducible refine gate_dst (N := 2) rfl ?_); refine box_event ?hg (N := 2) ?hd (cs := #[.slice A0 l0.length c0, .slice A1 l1.length c1]) (t := 39) ?hr ?_; (case hd => rfl); (case hg => rfl); (case hr => first | (go_simp; done) | (go_simp; rfl)); intro gp hgr w1 hbox hbel; have BP := Aside0.mk hbox; have GP := Aside0.mk hgr; have HB := Aside0.mk hbel; have hp0 : w1.cell? ⟨gp, 0, none⟩ = some (.slice A0 l0.length c0) := (blk_cell hbox 0).trans rfl; have hp1 : w1.cell? ⟨gp, 1, none⟩ = some (.slice A1 l1.length c1) := (blk_cell hbox 1).trans rfl; clear hbox hbel hgr))
  refine (laws_szDisk.calls k A0 c0 l0 A1 c1 l1 1048576 s _ (Kd.C_below HR0.out HB.out) HC0.out (Kd.C_below HR1.out HB.out) HC1.out N0.out).mono ?_
  rintro e w2 ⟨rfl, hb⟩
  have HB2 := Aside0.mk (below_step HB.out hb)
  have d1 : decide (s < 0) = true := decide_eq_true hs
  go_wp2_with fail
  go_ret
  exact ⟨rfl, HB2.out⟩

def laws_FnExactReadPage.T10 : Bool × List (List Nat × List Nat) := (true, [([], []), ([], []), ([1], [1]), ([0, 2, 2], [0, 2]), ([3], [3])])
def laws_FnExactReadPage.B10 : List Nat := [0, 0, 2, 7, 15]
theorem laws_FnExactReadPage.tab10 : rtab .any (opsOf Try.f10 10) = laws_FnExactReadPage.T10 := by kernel_rfl
theorem laws_FnExactReadPage.bits10 : waitsOk laws_FnExactReadPage.T10.2 laws_FnExactReadPage.B10 = true := by kernel_rfl
set_option maxHeartbeats 8000000 in
set_option maxRecDepth 100000 in
theorem laws_FnExactReadPage.full (k k2 k3 k4 k5 k6 k7 : Nat) (A0 : Option Addr) (c0 : Nat) (l0 : List (List Int)) (A1 : Option Addr) (c1 : Nat) (l1 : List S184) (x s : Int) (d0 : List (List Int)) (d1 : List S185) (rn : Int) (ra : List Int) (rb : Bool) (w : World) (hr0 : Kd.C (Kd.slice 5 (Kd.int .u8)) w A0 l0.length l0) (hc0 : l0.length ≤ c0) (hr1 : Kd.C k184 w A1 l1.length l1) (hc1 : l1.length ≤ c1)
    (hsz : laws_szDisk.f k l0 l1 1048576 = some s) (hs : ¬ s < 0) (hto : laws_toDisk.f k2 l0 l1 = some (d0, d1)) (hsp : spec_ReadPage.f k3 d0 d1 x = some (rn, ra, rb)) (him : impl_ReadPage.f k4 d0 d1 x = some (rn, ra, rb))
    (heq : laws_eqByteS.f k5 ra ra = some true) (hed : laws_eqDisk.f k6 d0 d1 d0 d1 = some true) (hsum : 1 + (totL d0 : Int) + totP d1 ≤ 4611686018427387904) (hra : (ra.length : Int) ≤ 4611686018427387904) (hhe : laws_heldByteS.f k7 (marks ra.length 1) 1 = some (1 + (ra.length : Int)))
    (hx : (Lit.int .i64 x).wf = true) (hwf : ∀ p ∈ d1, (Lit.int .i64 p.f0).wf = true) :
    Calls Try.prog 10 #[.agg #[.slice A0 l0.length c0, .slice A1 l1.length c1], .int .i64 x] w fun e w' => e = .returned (.bool true) ∧ Below w.heap.size w w' := by
  have hu39 := Try.underlying39
  have hu44 := Try.underlying44
  have HR0 := Aside0.mk hr0
  have HR1 := Aside0.mk hr1
  have HC0 := Aside0.mk hc0
  have HC1 := Aside0.mk hc1
  obtain ⟨km, hmk⟩ := markB_at (l := ra) (m := 1) (by omega) (by omega)
  have N0 := Aside0.mk hsz
  have N1 := Aside0.mk hto
  have N2 := Aside0.mk hsp
  have N3 := Aside0.mk him
  have N4 := Aside0.mk heq
  have N5 := Aside0.mk hed
  have N6 := Aside0.mk hmk
  have N7 := Aside0.mk hhe
  have NS := Aside0.mk hsum
  have NR := Aside0.mk hra
  have NX := Aside0.mk hx
  have NW := Aside0.mk hwf
  have e5 : (rn != rn) = false := by simp
  have e1 : decide (s < 0) = false := decide_eq_false hs
  have e2 : decide ((1 + (totL d0 : Int) + totP d1) < 0) = false := decide_eq_false (by omega)
  have e3 : decide ((1 + (ra.length : Int)) < 0) = false := decide_eq_false (by omega)
  clear hr0 hr1 hc0 hc1 hsz hto hsp him heq hed hmk hhe hsum hra hx hwf hs
  go_enter Try.func10, Try.ntmps10
  go_wp2_with (first | ((with_reducible refine gate_dst (N := 2) rfl ?_); refine box_event ?hg (N := 2) ?hd (cs := #[.slice A0 l0.length c0, .slice A1 l1.length c1]) (t := 39) ?hr ?_; (case hd => rfl); (case hg => rfl); (case hr => first | (go_simp; done) | (go_simp; rfl)); intro gp hgr w1 hbox hbel; have BP := Aside0.mk hbox; have GP := Aside0.mk hgr; have HB := Aside0.mk hbel; have hp0 : w1.cell? ⟨gp, 0, none⟩ = some (.slice A0 l0.length c0) := (blk_cell hbox 0).trans rfl; have hp1 : w1.cell? ⟨gp, 1, none⟩ = some (.slice A1 l1.length c1) := (blk_cell hbox 1).trans rfl; clear hbox hbel hgr))
  refine (laws_szDisk.calls k A0 c0 l0 A1 c1 l1 1048576 s _ (Kd.C_below HR0.out HB.out) HC0.out (Kd.C_below HR1.out HB.out) HC1.out N0.out).mono ?_
  rintro e w2 ⟨rfl, hb⟩
  clear hp0 hp1
  have BP := Aside0.mk (blk_below BP.out hb)
  have HB := Aside0.mk (below_step HB.out hb)
  have hp0 : w2.cell? ⟨gp, 0, none⟩ = some (.slice A0 l0.length c0) := (blk_cell BP.out 0).trans rfl
  have hp1 : w2.cell? ⟨gp, 1, none⟩ = some (.slice A1 l1.length c1) := (blk_cell BP.out 1).trans rfl
  clear hb
  go_wp2_with fail
  refine (laws_toDisk.apart k2 A0 c0 l0 A1 c1 l1 d0 d1 _ (Kd.C_below HR0.out HB.out) HC0.out (Kd.C_below HR1.out HB.out) HC1.out N1.out).mono ?_
  rintro e w3 ⟨v0, v1, P1, Q1, rfl, hd, hb⟩
  clear hp0 hp1
  have BP := Aside0.mk (blk_below BP.out hb)
  have HB := Aside0.mk (below_step HB.out hb)
  have hp0 : w3.cell? ⟨gp, 0, none⟩ = some (.slice A0 l0.length c0) := (blk_cell BP.out 0).trans rfl
  have hp1 : w3.cell? ⟨gp, 1, none⟩ = some (.slice A1 l1.length c1) := (blk_cell BP.out 1).trans rfl
  obtain ⟨Y0, yc0, rfl⟩ := Kd.S_slice hd.2.1
  obtain ⟨Y1, yc1, rfl⟩ := Kd.S_slice hd.2.2
  have HY := Aside0.mk hd
  clear hb hd
  go_wp2_with fail
  refine (spec_ReadPage.calls k3 Y0 yc0 d0 Y1 yc1 d1 x rn ra rb _ (Kd.S_reads' HY.out.2.1).2.2 (Kd.S_reads' HY.out.2.1).2.1 (Kd.S_reads' HY.out.2.2).2.2 (Kd.S_reads' HY.out.2.2).2.1 N2.out).mono ?_
  rintro e w4 ⟨vw, rfl, hv, hb⟩
  clear hp0 hp1
  have HW := Aside0.mk (R_between hv HB.out.size)
  have BP := Aside0.mk (blk_below BP.out hb)
  have HB := Aside0.mk (below_step HB.out hb)
  have hp0 : w4.cell? ⟨gp, 0, none⟩ = some (.slice A0 l0.length c0) := (blk_cell BP.out 0).trans rfl
  have hp1 : w4.cell? ⟨gp, 1, none⟩ = some (.slice A1 l1.length c1) := (blk_cell BP.out 1).trans rfl
  obtain ⟨Aw, cw, rfl⟩ := Kd.R_slice HW.out
  have HWN : Aside0 (∀ q, w3.heap.size ≤ q ∧ q < w4.heap.size → q < w4.heap.size) := ⟨fun q h => h.2⟩
  clear hb hv HY
  go_wp2_with fail
  refine (laws_toDisk.apart k2 A0 c0 l0 A1 c1 l1 d0 d1 _ (Kd.C_below HR0.out HB.out) HC0.out (Kd.C_below HR1.out HB.out) HC1.out N1.out).mono ?_
  rintro e w5 ⟨v0, v1, P1, Q1, rfl, hd, hb⟩
  clear hp0 hp1
  have H45R := Aside0.mk hb.size
  obtain ⟨P2, Q2, hPQ, hd2⟩ := IsDisk_between hd HB.out.size
  have GPL : Aside0 (gp < w4.heap.size) := ⟨blk_lt BP.out⟩
  have GPW : Aside0 (gp ≥ w.heap.size) := ⟨Nat.le_of_eq GP.out.symm⟩
  have BP := Aside0.mk (blk_below BP.out hb)
  have HB := Aside0.mk (below_step HB.out hb)
  have HW := Aside0.mk (Kd.R_below HW.out hb)
  have hp0 : w5.cell? ⟨gp, 0, none⟩ = some (.slice A0 l0.length c0) := (blk_cell BP.out 0).trans rfl
  have hp1 : w5.cell? ⟨gp, 1, none⟩ = some (.slice A1 l1.length c1) := (blk_cell BP.out 1).trans rfl
  obtain ⟨X0, xc0, rfl⟩ := Kd.S_slice hd2.2.1
  obtain ⟨X1, xc1, rfl⟩ := Kd.S_slice hd2.2.2
  have HX := Aside0.mk hd2
  have HPQ := Aside0.mk hPQ
  clear hb hd hd2 hPQ
  go_wp2_with (first | ((with_reducible refine gate_dst (N := 9) rfl ?_); refine box_event ?hg (N := 9) ?hd (cs := #[.slice none 0 0, .slice none 0 0]) (t := 44) ?hr ?_; (case hd => rfl); (case hg => rfl); (case hr => first | (go_simp; done) | (go_simp; rfl)); intro g8 hgr w6 hbox hbel; have B8a := Aside0.mk hbox; have G8 := Aside0.mk hgr; have hb := hbel; have G8W : Aside0 (w.heap.size ≤ g8) := ⟨by rw [hgr]; exact HB.out.size⟩; have H57a : Aside0 (w5.heap.size ≤ w6.heap.size) := ⟨hbel.size⟩; have H45 : Aside0 (w4.heap.size ≤ w5.heap.size) := ⟨by have h := GPL.out; have h2 := H45R.out; exact h2⟩; have NPG : Aside0 (gp ≠ g8) := ⟨by have := blk_lt BP.out; omega⟩; have BP := Aside0.mk (blk_below BP.out hb); have HB := Aside0.mk (below_step HB.out hb); have HW := Aside0.mk (Kd.R_below HW.out hb); have HX := Aside0.mk (IsDisk_below HX.out hb); clear hb; clear hbox hbel hgr) | ((with_reducible refine gate_ (.store 44 (.tmp 9) (.tmp 33)) rfl ?_); refine store_blk rfl rfl 44 (.tmp 9) (.tmp 33) rfl (off := 0) (u := .agg #[.slice X0 d0.length xc0, .slice X1 d1.length xc1]) #[.slice X0 d0.length xc0, .slice X1 d1.length xc1] rfl rfl B8a.out [.slice X0 d0.length xc0, .slice X1 d1.length xc1] rfl (by kernel_rfl) (Nat.le_of_ble_eq_true rfl) rfl rfl ?_; intro w7 hblk hgrw; have B8 := Aside0.mk hblk; have BP := Aside0.mk (blk_grown BP.out hgrw (fun e => NPG.out (Option.some.inj e))); have HB := Aside0.mk (HB.out.grown hgrw HB.out.size (by intro q hq; cases hq; exact G8W.out)); have HW := Aside0.mk (Kd.R_grown HW.out hgrw (fun q hq e => by have := hq.2; have := G8.out; have := H45.out; have := Option.some.inj e; omega)); have HX := Aside0.mk (IsDisk_grown HX.out hgrw (fun q hq e => by have := (HPQ.out q hq).2; have := G8.out; omega)); have H57 : Aside0 (w5.heap.size ≤ w7.heap.size) := ⟨Nat.le_trans H57a.out hgrw.size⟩; have H47 : Aside0 (w4.heap.size ≤ w7.heap.size) := ⟨Nat.le_trans H45.out (Nat.le_trans H57a.out hgrw.size)⟩; have hp0 : w7.cell? ⟨gp, 0, none⟩ = some (.slice A0 l0.length c0) := (blk_cell BP.out 0).trans rfl; have hp1 : w7.cell? ⟨gp, 1, none⟩ = some (.slice A1 l1.length c1) := (blk_cell BP.out 1).trans rfl; have hx0 : w7.cell? ⟨g8, 0, none⟩ = some (.slice X0 d0.length xc0) := (blk_cell B8.out 0).trans rfl; have hx1 : w7.cell? ⟨g8, 1, none⟩ = some (.slice X1 d1.length xc1) := (blk_cell B8.out 1).trans rfl; clear hblk hgrw))
  refine (impl_ReadPage.calls k4 X0 xc0 d0 X1 xc1 d1 x rn ra rb _ (Kd.S_reads' HX.out.2.1).2.2 (Kd.S_reads' HX.out.2.1).2.1 (Kd.S_reads' HX.out.2.2).2.2 (Kd.S_reads' HX.out.2.2).2.1 NX.out NW.out N3.out).mono ?_
  rintro e w8 ⟨vg, rfl, hv, hb⟩
  clear hp0 hp1 hx0 hx1
  have HG := Aside0.mk (R_between hv HB.out.size)
  have G8L : Aside0 (g8 < w7.heap.size) := ⟨blk_lt B8.out⟩
  have BP := Aside0.mk (blk_below BP.out hb)
  have HB := Aside0.mk (below_step HB.out hb)
  have HW := Aside0.mk (Kd.R_below HW.out hb)
  have B8 := Aside0.mk (blk_below B8.out hb)
  have HX := Aside0.mk (IsDisk_below HX.out hb)
  obtain ⟨Ag, cg, rfl⟩ := Kd.R_slice HG.out
  clear hb hv
  go_wp2_with fail
  refine (laws_eqByteS.calls k5 Ag cg ra Aw cw ra true _ (Kd.R_reads' HG.out).2.2 (Kd.R_reads' HG.out).2.1 (Kd.R_reads' HW.out).2.2 (Kd.R_reads' HW.out).2.1 N4.out).mono ?_
  rintro e w9 ⟨rfl, hdr⟩
  have hb := hdr.below
  have BP := Aside0.mk (blk_below BP.out hb)
  have HB := Aside0.mk (below_step HB.out hb)
  have HW := Aside0.mk (Kd.R_below HW.out hb)
  have B8 := Aside0.mk (blk_below B8.out hb)
  have HX := Aside0.mk (IsDisk_below HX.out hb)
  have HG := Aside0.mk (Kd.R_below HG.out hb)
  clear hb hdr
  go_wp2_with fail
  refine start_ (n := 5) (S := fun w' => w'.heap[gp]? = some (.cells #[.slice A0 l0.length c0, .slice A1 l1.length c1] 39 (0, 0)) ∧ w'.heap[g8]? = some (.cells #[.slice X0 d0.length xc0, .slice X1 d1.length xc1] 44 (0, 0))) (ds := []) #[false, false, false, false, false] (by kernel_rfl) rfl rfl (⟨blk_drew BP.out, blk_drew B8.out⟩) (fun hHeld => ?_); refine with_tabW laws_FnExactReadPage.tab10 laws_FnExactReadPage.bits10 (fun HT_ HW_ => ?_)
  have HB := Aside0.mk (below_drew1 HB.out)
  have HW := Aside0.mk (Kd.R_drew HW.out)
  have HG := Aside0.mk (Kd.R_drew HG.out)
  have HX := Aside0.mk (show IsDisk w9.drew w.heap.size P2 Q2 (.slice X0 d0.length xc0) (.slice X1 d1.length xc1) d0 d1 from ⟨HX.out.1, Kd.S_drew HX.out.2.1, Kd.S_drew HX.out.2.2⟩)
  refine take_ (i := 0) (N := some 55) (v := ?_) (a' := ?_) #[true, false, false, false, false] rfl rfl (take_ofW HT_.out HW_.out (by kernel_rfl)) (fun _ _ _ h => h) (Or.inl ⟨by rfl, ?_⟩) hHeld ?_ ?_
  rotate_left
  · intro w' s0
    have hx0 : w'.cell? ⟨g8, 0, none⟩ = some (.slice X0 d0.length xc0) := (blk_cell s0.2 0).trans rfl
    have hx1 : w'.cell? ⟨g8, 1, none⟩ = some (.slice X1 d1.length xc1) := (blk_cell s0.2 1).trans rfl
    clear s0
    go_simp
    with_reducible rfl
  rotate_left
  · simp only [Act.put, List.setIfInBounds_toArray, List.set_cons_zero, List.set_cons_succ, i64_w, i32_w]
    rfl
  refine take_ (i := 1) (N := some 56) (v := ?_) (a' := ?_) #[true, true, false, false, false] rfl rfl (take_ofW HT_.out HW_.out (by kernel_rfl)) (fun _ _ _ h => h) (Or.inl ⟨by rfl, ?_⟩) hHeld ?_ ?_
  rotate_left
  · intro w' s0
    have hp0 : w'.cell? ⟨gp, 0, none⟩ = some (.slice A0 l0.length c0) := (blk_cell s0.1 0).trans rfl
    have hp1 : w'.cell? ⟨gp, 1, none⟩ = some (.slice A1 l1.length c1) := (blk_cell s0.1 1).trans rfl
    clear s0
    go_simp
    with_reducible rfl
  rotate_left
  · simp only [Act.put, List.setIfInBounds_toArray, List.set_cons_zero, List.set_cons_succ, i64_w, i32_w]
    rfl
  refine one_ (i := 2) (N := some 57) #[true, true, true, false, false] rfl rfl (one_of HT_.out (by kernel_rfl)) (by decide) (fun K hK => ?_)
  refine goes_ Try.func26 (by kernel_rfl) rfl #[.agg #[.slice A0 l0.length c0, .slice A1 l1.length c1]] (by rfl) rfl rfl (by first | rfl | (simp only [List.map_toArray, List.map_cons, List.map_nil]; first | done | rfl)) ?_
  refine (laws_toDisk.apart k2 A0 c0 l0 A1 c1 l1 d0 d1 _ (Kd.C_below HR0.out HB.out) HC0.out (Kd.C_below HR1.out HB.out) HC1.out N1.out).mono ?_
  rintro e w10 ⟨v0, v1, P3, Q3, rfl, hd, hb⟩
  refine ⟨_, rfl, ?_⟩
  have BP := Aside0.mk (blk_below hHeld.1 hb)
  have B8 := Aside0.mk (blk_below hHeld.2 hb)
  have HB := Aside0.mk (below_step HB.out hb)
  have HW := Aside0.mk (Kd.R_below HW.out hb)
  have HG := Aside0.mk (Kd.R_below HG.out hb)
  have HX := Aside0.mk (IsDisk_below HX.out hb)
  obtain ⟨Z0, zc0, rfl⟩ := Kd.S_slice hd.2.1
  obtain ⟨Z1, zc1, rfl⟩ := Kd.S_slice hd.2.2
  have HZ := Aside0.mk hd
  clear hb hd hHeld
  refine hK.out _ _ (⟨BP.out, B8.out⟩) (fun hHeld => ?_)
  clear hK K
  refine norm_ (a' := ?_) ?_ ?_
  rotate_left
  · show Act.put _ (some 57) _ = _
    simp only [Act.put, List.setIfInBounds_toArray, List.set_cons_zero, List.set_cons_succ, i64_w, i32_w]
    rfl
  refine one_ (i := 3) (N := some 58) #[true, true, true, true, false] rfl rfl (one_of HT_.out (by kernel_rfl)) (by decide) (fun K hK => ?_)
  refine goes_ Try.func28 (by kernel_rfl) rfl #[.agg #[.slice X0 d0.length xc0, .slice X1 d1.length xc1], .agg #[.slice Z0 d0.length zc0, .slice Z1 d1.length zc1]] (by rfl) rfl rfl (by first | rfl | (simp only [List.map_toArray, List.map_cons, List.map_nil]; first | done | rfl)) ?_
  refine (laws_eqDisk.calls k6 X0 xc0 d0 X1 xc1 d1 Z0 zc0 d0 Z1 zc1 d1 true _ (Kd.S_reads' HX.out.2.1).2.2 (Kd.S_reads' HX.out.2.1).2.1 (Kd.S_reads' HX.out.2.2).2.2 (Kd.S_reads' HX.out.2.2).2.1 (Kd.S_reads' HZ.out.2.1).2.2 (Kd.S_reads' HZ.out.2.1).2.1 (Kd.S_reads' HZ.out.2.2).2.2 (Kd.S_reads' HZ.out.2.2).2.1 N5.out).mono ?_
  rintro e w11 ⟨rfl, hb⟩
  refine ⟨_, rfl, ?_⟩
  have BP := Aside0.mk (blk_below hHeld.1 hb)
  have B8 := Aside0.mk (blk_below hHeld.2 hb)
  have HB := Aside0.mk (below_step HB.out hb)
  have HW := Aside0.mk (Kd.R_below HW.out hb)
  have HG := Aside0.mk (Kd.R_below HG.out hb)
  have HX := Aside0.mk (IsDisk_below HX.out hb)
  clear hb hHeld HZ
  refine hK.out _ _ (⟨BP.out, B8.out⟩) (fun hHeld => ?_)
  clear hK K
  refine norm_ (a' := ?_) ?_ ?_
  rotate_left
  · show Act.put _ (some 58) _ = _
    simp only [Act.put, List.setIfInBounds_toArray, List.set_cons_zero, List.set_cons_succ, i64_w, i32_w]
    rfl
  refine pure_ (i := 4) (N := some 59) (v := ?_) (a' := ?_) #[true, true, true, true, true] rfl rfl (any_of HT_.out (by kernel_rfl)) (fun _ _ _ h => h) (Or.inl ⟨by rfl, ?_⟩) ?_ ?_
  rotate_left
  · intro w'
    go_simp
    with_reducible rfl
  rotate_left
  · simp only [Act.put, List.setIfInBounds_toArray, List.set_cons_zero, List.set_cons_succ, i64_w, i32_w]
    rfl
  refine done_ (done_of HT_.out (by kernel_rfl)) ?_
  try clear hHeld
  have hx0 : w11.cell? ⟨g8, 0, none⟩ = some (.slice X0 d0.length xc0) := (blk_cell B8.out 0).trans rfl
  have hx1 : w11.cell? ⟨g8, 1, none⟩ = some (.slice X1 d1.length xc1) := (blk_cell B8.out 1).trans rfl
  go_wp2_with fail
  refine (laws_markDisk.calls P2 Q2 (.slice X0 d0.length xc0) (.slice X1 d1.length xc1) d0 d1 1 w _ HB.out HX.out (by decide) NS.out).mono ?_
  rintro e w12 ⟨rfl, _, hb, hk⟩
  clear hx0 hx1
  have BP := Aside0.mk ((hk.2 gp (blk_lt BP.out) (fun h => by have := (HPQ.out gp h).1; have := GPL.out; omega)).trans BP.out)
  have HW := Aside0.mk (Kd.R_step HW.out (w1 := w12) (fun q hq hlt => hk.2 q hlt (fun h => by have := (HPQ.out q h).1; omega)))
  have HG := Aside0.mk (Kd.R_step HG.out (w1 := w12) (fun q hq hlt => hk.2 q hlt (fun h => by have := (HPQ.out q h).2; have := H57.out; omega)))
  have HB := Aside0.mk hb
  clear hb hk HX B8
  go_wp2_with fail
  refine (laws_eqByteS.calls k5 Ag cg ra Aw cw ra true _ (Kd.R_reads' HG.out).2.2 (Kd.R_reads' HG.out).2.1 (Kd.R_reads' HW.out).2.2 (Kd.R_reads' HW.out).2.1 N4.out).mono ?_
  rintro e w13 ⟨rfl, hdr⟩
  have hb := hdr.below
  have BP := Aside0.mk (blk_below BP.out hb)
  have HB := Aside0.mk (below_step HB.out hb)
  have HW := Aside0.mk (Kd.R_below HW.out hb)
  have HG := Aside0.mk (Kd.R_below HG.out hb)
  clear hb hdr
  go_wp2_with fail
  refine (laws_markByteS.calls km (fun k_ => some k_ = (Value.slice Ag ra.length cg).ownBlock) (.slice Ag ra.length cg) ra 1 _ _ w _ HB.out (Kd.R_tight rfl HG.out) N6.out).mono ?_
  rintro e w14 ⟨rfl, hv, hb, hk⟩
  have BP := Aside0.mk ((hk.2 gp (blk_lt BP.out) (fun h => by have := (HG.out.1 gp h.symm).1; have := GPL.out; have := H47.out; omega)).trans BP.out)
  have HW := Aside0.mk (Kd.R_step HW.out (w1 := w14) (fun q hq hlt => hk.2 q hlt (fun h => by have := (HG.out.1 q h.symm).1; have := hq.2; have := H47.out; omega)))
  have HB := Aside0.mk hb
  have HM := Aside0.mk hv
  clear hb hk hv HG
  have hml : (marks ra.length 1).length = ra.length := marks_length _ _
  have HC14 : Aside0 (Kd.C (Kd.int .u8) w14 Ag (marks ra.length 1).length (marks ra.length 1)) := ⟨(Kd.R_reads' HM.out).2.2⟩
  have HL14 : Aside0 ((marks ra.length 1).length ≤ cg) := ⟨by rw [hml]; exact (Kd.R_reads' HM.out).2.1⟩
  have HML := Aside0.mk hml
  clear hml HM
  go_wp2_with fail
  have hheld := laws_heldByteS.calls k7 Ag cg (marks ra.length 1) 1 (1 + (ra.length : Int)) w14 HC14.out HL14.out N7.out
  rw [HML.out] at hheld
  refine hheld.mono ?_
  clear hheld
  rintro e w15 ⟨rfl, hdr⟩
  have hb := hdr.below
  have BP := Aside0.mk (blk_below BP.out hb)
  have HB := Aside0.mk (below_step HB.out hb)
  have HW := Aside0.mk (Kd.R_below HW.out hb)
  have hp0 : w15.cell? ⟨gp, 0, none⟩ = some (.slice A0 l0.length c0) := (blk_cell BP.out 0).trans rfl
  have hp1 : w15.cell? ⟨gp, 1, none⟩ = some (.slice A1 l1.length c1) := (blk_cell BP.out 1).trans rfl
  clear hb hdr HC14 HL14
  have e4 : ((1 + (ra.length : Int)) != (1 + (ra.length : Int))) = false := by simp
  go_wp2_with fail
  refine (laws_toDisk.apart k2 A0 c0 l0 A1 c1 l1 d0 d1 _ (Kd.C_below HR0.out HB.out) HC0.out (Kd.C_below HR1.out HB.out) HC1.out N1.out).mono ?_
  rintro e w16 ⟨v0, v1, P3, Q3, rfl, hd, hb⟩
  clear hp0 hp1
  have BP := Aside0.mk (blk_below BP.out hb)
  have HB := Aside0.mk (below_step HB.out hb)
  have HW := Aside0.mk (Kd.R_below HW.out hb)
  obtain ⟨Z0, zc0, rfl⟩ := Kd.S_slice hd.2.1
  obtain ⟨Z1, zc1, rfl⟩ := Kd.S_slice hd.2.2
  have HZ := Aside0.mk hd
  clear hb hd
  go_wp2_with fail
  refine (impl_ReadPage.calls k4 Z0 zc0 d0 Z1 zc1 d1 x rn ra rb _ (Kd.S_reads' HZ.out.2.1).2.2 (Kd.S_reads' HZ.out.2.1).2.1 (Kd.S_reads' HZ.out.2.2).2.2 (Kd.S_reads' HZ.out.2.2).2.1 NX.out NW.out N3.out).mono ?_
  rintro e w17 ⟨vh, rfl, hv, hb⟩
  have BP := Aside0.mk (blk_below BP.out hb)
  have HB := Aside0.mk (below_step HB.out hb)
  have HW := Aside0.mk (Kd.R_below HW.out hb)
  obtain ⟨Ah, ch, rfl⟩ := Kd.R_slice hv
  have HH := Aside0.mk hv
  clear hb hv HZ
  go_wp2_with fail
  refine (laws_eqByteS.calls k5 Ah ch ra Aw cw ra true _ (Kd.R_reads' HH.out).2.2 (Kd.R_reads' HH.out).2.1 (Kd.R_reads' HW.out).2.2 (Kd.R_reads' HW.out).2.1 N4.out).mono ?_
  rintro e w18 ⟨rfl, hdr⟩
  have hb := hdr.below
  have BP := Aside0.mk (blk_below BP.out hb)
  have HB := Aside0.mk (below_step HB.out hb)
  clear hb hdr
  go_wp2_with fail
  go_ret
  exact ⟨rfl, HB.out⟩
end Go.Proofs.Ytlopmffdebhpfaa.G

/-! ## DiskP -/
namespace Go.Proofs.Ytlopmffdebhpfaa.Pure
open Go.RowKit Go.Proofs.Ytlopmffdebhpfaa.G Go.Proofs.YtlopmffdebhpfaaW.PrintWords Go.Proofs.YtlopmffdebhpfaaW.PrintLast Go.Proofs.YtlopmffdebhpfaaW.PrintMore

theorem Cv.step {α : Type} {f g : Nat → Option α} {v : α} (hs : ∀ k, g (k + 1) = f k) (h : Cv f v) : Cv g v := Cv.succ h hs
theorem getD_mid {α : Type} (pre r : List α) (x z : α) : (pre ++ x :: r).getD ((pre.length : Int)).toNat z = x := by
  rw [Int.toNat_natCast, List.getD_eq_getElem?_getD, List.getElem?_append_right (Nat.le_refl _), Nat.sub_self]
  rfl
theorem mid_len {α : Type} (pre r : List α) (x : α) : ((pre ++ x :: r).length : Int) = pre.length + r.length + 1 := by simp; omega
theorem snoc_len {α : Type} (pre : List α) (x : α) : (((pre ++ [x]).length : Nat) : Int) = (pre.length : Int) + 1 := by simp
theorem mid_snoc {α : Type} (pre r : List α) (x : α) : pre ++ x :: r = (pre ++ [x]) ++ r := by simp
theorem set_mid {α : Type} (pre r : List α) (x y : α) : (pre ++ x :: r).set ((pre.length : Int)).toNat y = (pre ++ [y]) ++ r := by
  rw [Int.toNat_natCast, List.set_append_right _ _ (Nat.le_refl _), Nat.sub_self, List.set_cons_zero, List.append_assoc, List.singleton_append]
/-- A pending write, as the other package's type. -/
def cv (q : S184) : S185 := ⟨q.f0, q.f1⟩
theorem toSS_l0 : ∀ (r pre : List (List Int)), (∀ l ∈ r, l.length ≤ 281474976710656) → (pre ++ r).length ≤ 11728124029610 →
    Cv (fun k => laws_toByteSS.l0 k (pre ++ r) (pre ++ List.replicate r.length []) (pre.length : Int)) (pre ++ r)
  | [], pre, h, hm => by
    refine Cv.step (fun k => laws_toByteSS.l0.eq_2 _ _ _ k) (Cv.neg (by simp) (Cv.of ?_))
    simp
  | x :: r, pre, h, hm => by
    have h1 := mid_len pre r x
    have h2 : ((pre ++ List.replicate (x :: r).length ([] : List Int)).length : Int) = pre.length + r.length + 1 := by simp; omega
    refine Cv.step (fun k => laws_toByteSS.l0.eq_2 _ _ _ k) (Cv.pos (by omega) (Cv.pos (by omega) ?_))
    rw [show rd_L2 (pre ++ x :: r) (pre.length : Int) = x from getD_mid _ _ _ _]
    refine Cv.bind (toB (h x List.mem_cons_self)) (Cv.pos (by omega) ?_)
    rw [w64 (by omega) (by omega), List.length_cons, List.replicate_succ, set_mid, mid_snoc]
    have ih := toSS_l0 r (pre ++ [x]) (fun l hl => h l (List.mem_cons_of_mem _ hl)) (by simpa using hm)
    rw [snoc_len] at ih
    exact ih
theorem toSS {ls : List (List Int)} (h : ∀ l ∈ ls, l.length ≤ 281474976710656) (hm : ls.length ≤ 11728124029610) : Cv (fun k => laws_toByteSS.f k ls) ls := by
  unfold laws_toByteSS.f
  refine Cv.pos (by omega) (Cv.pos (by omega) ?_)
  have := toSS_l0 ls [] h (by simpa using hm)
  simpa using this
theorem toPS_l0 : ∀ (r pre : List S184), (∀ l ∈ r, l.f1.length ≤ 281474976710656) → (pre ++ r).length ≤ 8796093022208 →
    Cv (fun k => laws_toPendS.l0 k (pre ++ r) (pre.map cv ++ List.replicate r.length z185) (pre.length : Int)) ((pre ++ r).map cv)
  | [], pre, h, hm => by
    refine Cv.step (fun k => laws_toPendS.l0.eq_2 _ _ _ k) (Cv.neg (by simp) (Cv.of ?_))
    simp
  | x :: r, pre, h, hm => by
    have h1 := mid_len pre r x
    have h2 : ((pre.map cv ++ List.replicate (x :: r).length z185).length : Int) = pre.length + r.length + 1 := by simp; omega
    refine Cv.step (fun k => laws_toPendS.l0.eq_2 _ _ _ k) (Cv.pos (by omega) (Cv.pos (by omega) ?_))
    rw [show rd_T184 (pre ++ x :: r) (pre.length : Int) = x from getD_mid _ _ _ _]
    refine Cv.bind (v := (x.f0, x.f1)) ?_ (Cv.pos (by omega) ?_)
    · unfold laws_toPend.f
      exact Cv.bind (toB (h x List.mem_cons_self)) (Cv.of rfl)
    rw [w64 (by omega) (by omega), List.length_cons, List.replicate_succ]
    have hset := set_mid (pre.map cv) (List.replicate r.length z185) z185 (⟨x.f0, x.f1⟩ : S185)
    rw [List.length_map] at hset
    rw [hset, mid_snoc]
    have ih := toPS_l0 r (pre ++ [x]) (fun l hl => h l (List.mem_cons_of_mem _ hl)) (by simpa using hm)
    rw [snoc_len, List.map_append] at ih
    exact ih
theorem toPS {ls : List S184} (h : ∀ l ∈ ls, l.f1.length ≤ 281474976710656) (hm : ls.length ≤ 8796093022208) : Cv (fun k => laws_toPendS.f k ls) (ls.map cv) := by
  unfold laws_toPendS.f
  refine Cv.pos (by omega) (Cv.pos (by omega) ?_)
  have := toPS_l0 ls [] h (by simpa using hm)
  simpa using this
theorem toD {ls : List (List Int)} {ps : List S184} (h : ∀ l ∈ ls, l.length ≤ 281474976710656) (hm : ls.length ≤ 11728124029610) (h' : ∀ l ∈ ps, l.f1.length ≤ 281474976710656) (hm' : ps.length ≤ 8796093022208) : Cv (fun k => laws_toDisk.f k ls ps) (ls, ps.map cv) := by
  unfold laws_toDisk.f
  exact Cv.bind (toSS h hm) (Cv.bind (toPS h' hm') (Cv.of rfl))

/-! ### sizes -/
def totP4 : List S184 → Nat
  | [] => 0
  | p :: r => p.f1.length + totP4 r
theorem szSS_l0 : ∀ (r pre : List (List Int)) (a : Int), 0 ≤ a → a ≤ 1048576 → (∀ l ∈ r, l.length ≤ 9223372036854775807) → (pre ++ r).length ≤ 9223372036854775806 →
    ∃ s, Cv (fun k => laws_szByteSS.l0 k (pre ++ r) a (pre.length : Int)) s ∧ s ≤ 1048576 ∧ (0 ≤ s → (totL r : Int) + s = a)
  | [], pre, a, h0, ha, hr, hm => ⟨a, Cv.step (fun k => laws_szByteSS.l0.eq_2 _ _ _ k) (Cv.neg (by simp) (Cv.of rfl)), ha, fun _ => by simp [totL]⟩
  | x :: r, pre, a, h0, ha, hr, hm => by
    have h1 := mid_len pre r x
    have hx := hr x List.mem_cons_self
    have hw : wrap64 (a - (x.length : Int)) = a - x.length := w64 (by omega) (by omega)
    by_cases hneg : a - (x.length : Int) < 0
    · refine ⟨-1, Cv.step (fun k => laws_szByteSS.l0.eq_2 _ _ _ k) (Cv.pos (by omega) (Cv.pos (by omega) ?_)), by omega, fun h => by omega⟩
      rw [show rd_L2 (pre ++ x :: r) (pre.length : Int) = x from getD_mid _ _ _ _]
      refine Cv.bind (v := -1) (Cv.of ?_) (Cv.pos (by decide) (Cv.of rfl))
      unfold laws_szByteS.f
      rw [hw, if_pos hneg]
    · obtain ⟨s, hs, hs1, hs2⟩ := szSS_l0 r (pre ++ [x]) (a - x.length) (by omega) (by omega) (fun l hl => hr l (List.mem_cons_of_mem _ hl)) (by simpa using hm)
      refine ⟨s, Cv.step (fun k => laws_szByteSS.l0.eq_2 _ _ _ k) (Cv.pos (by omega) (Cv.pos (by omega) ?_)), hs1, fun h => by have := hs2 h; simp only [totL]; omega⟩
      rw [show rd_L2 (pre ++ x :: r) (pre.length : Int) = x from getD_mid _ _ _ _]
      refine Cv.bind (v := a - (x.length : Int)) (Cv.of ?_) (Cv.neg hneg ?_)
      · unfold laws_szByteS.f
        rw [hw, if_neg hneg]
      · rw [w64 (by omega) (by omega)]
        rw [snoc_len, ← mid_snoc] at hs
        exact hs
theorem szSS {ls : List (List Int)} {a : Int} (h0 : 0 ≤ a) (ha : a ≤ 1048576) (hr : ∀ l ∈ ls, l.length ≤ 9223372036854775807) (hm : ls.length ≤ 9223372036854775807) :
    ∃ s, Cv (fun k => laws_szByteSS.f k ls a) s ∧ s ≤ 1048576 ∧ (0 ≤ s → (totL ls : Int) + ls.length + s = a) := by
  have hw : wrap64 (a - (ls.length : Int)) = a - ls.length := w64 (by omega) (by omega)
  by_cases hneg : a - (ls.length : Int) < 0
  · refine ⟨-1, ?_, by omega, fun h => by omega⟩
    unfold laws_szByteSS.f
    rw [hw]
    exact Cv.pos hneg (Cv.of rfl)
  · obtain ⟨s, hs, h1, h2⟩ := szSS_l0 ls [] (a - ls.length) (by omega) (by omega) hr (by simp; omega)
    refine ⟨s, ?_, h1, fun h => by have := h2 h; omega⟩
    unfold laws_szByteSS.f
    rw [hw]
    exact Cv.neg hneg hs
theorem szPS_l0 : ∀ (r pre : List S184) (a : Int), 0 ≤ a → a ≤ 1048576 → (∀ l ∈ r, l.f1.length ≤ 9223372036854775807) → (pre ++ r).length ≤ 9223372036854775806 →
    ∃ s, Cv (fun k => laws_szPendS.l0 k (pre ++ r) a (pre.length : Int)) s ∧ s ≤ 1048576 ∧ (0 ≤ s → (totP4 r : Int) + s = a)
  | [], pre, a, h0, ha, hr, hm => ⟨a, Cv.step (fun k => laws_szPendS.l0.eq_2 _ _ _ k) (Cv.neg (by simp) (Cv.of rfl)), ha, fun _ => by simp [totP4]⟩
  | x :: r, pre, a, h0, ha, hr, hm => by
    have h1 := mid_len pre r x
    have hx := hr x List.mem_cons_self
    have hw : wrap64 (a - (x.f1.length : Int)) = a - x.f1.length := w64 (by omega) (by omega)
    by_cases hneg : a - (x.f1.length : Int) < 0
    · refine ⟨-1, Cv.step (fun k => laws_szPendS.l0.eq_2 _ _ _ k) (Cv.pos (by omega) (Cv.pos (by omega) ?_)), by omega, fun h => by omega⟩
      rw [show rd_T184 (pre ++ x :: r) (pre.length : Int) = x from getD_mid _ _ _ _]
      refine Cv.bind (v := -1) (Cv.of ?_) (Cv.pos (by decide) (Cv.of rfl))
      unfold laws_szPend.f laws_szByteS.f
      rw [hw, if_pos hneg, Option.bind_some, if_pos (by decide)]
    · obtain ⟨s, hs, hs1, hs2⟩ := szPS_l0 r (pre ++ [x]) (a - x.f1.length) (by omega) (by omega) (fun l hl => hr l (List.mem_cons_of_mem _ hl)) (by simpa using hm)
      refine ⟨s, Cv.step (fun k => laws_szPendS.l0.eq_2 _ _ _ k) (Cv.pos (by omega) (Cv.pos (by omega) ?_)), hs1, fun h => by have := hs2 h; simp only [totP4]; omega⟩
      rw [show rd_T184 (pre ++ x :: r) (pre.length : Int) = x from getD_mid _ _ _ _]
      refine Cv.bind (v := a - (x.f1.length : Int)) (Cv.of ?_) (Cv.neg hneg ?_)
      · unfold laws_szPend.f laws_szByteS.f
        rw [hw, if_neg hneg, Option.bind_some, if_neg hneg]
      · rw [w64 (by omega) (by omega)]
        rw [snoc_len, ← mid_snoc] at hs
        exact hs
theorem szPS {ls : List S184} {a : Int} (h0 : 0 ≤ a) (ha : a ≤ 1048576) (hr : ∀ l ∈ ls, l.f1.length ≤ 9223372036854775807) (hm : ls.length ≤ 9223372036854775807) :
    ∃ s, Cv (fun k => laws_szPendS.f k ls a) s ∧ s ≤ 1048576 ∧ (0 ≤ s → (totP4 ls : Int) + ls.length + s = a) := by
  have hw : wrap64 (a - (ls.length : Int)) = a - ls.length := w64 (by omega) (by omega)
  by_cases hneg : a - (ls.length : Int) < 0
  · refine ⟨-1, ?_, by omega, fun h => by omega⟩
    unfold laws_szPendS.f
    rw [hw]
    exact Cv.pos hneg (Cv.of rfl)
  · obtain ⟨s, hs, h1, h2⟩ := szPS_l0 ls [] (a - ls.length) (by omega) (by omega) hr (by simp; omega)
    refine ⟨s, ?_, h1, fun h => by have := h2 h; omega⟩
    unfold laws_szPendS.f
    rw [hw]
    exact Cv.neg hneg hs
theorem szD {ls : List (List Int)} {ps : List S184} {a : Int} (h0 : 0 ≤ a) (ha : a ≤ 1048576) (hr : ∀ l ∈ ls, l.length ≤ 9223372036854775807) (hm : ls.length ≤ 9223372036854775807) (hr' : ∀ l ∈ ps, l.f1.length ≤ 9223372036854775807) (hm' : ps.length ≤ 9223372036854775807) :
    ∃ s, Cv (fun k => laws_szDisk.f k ls ps a) s ∧ s ≤ 1048576 ∧ (0 ≤ s → (totL ls : Int) + ls.length + (totP4 ps + ps.length) + s = a) := by
  obtain ⟨s, hs, h1, h2⟩ := szSS h0 ha hr hm
  by_cases hneg : s < 0
  · refine ⟨-1, ?_, by omega, fun h => by omega⟩
    unfold laws_szDisk.f
    exact Cv.bind hs (Cv.pos hneg (Cv.of rfl))
  · obtain ⟨t, ht, h3, h4⟩ := szPS (a := s) (by omega) h1 hr' hm'
    by_cases hneg2 : t < 0
    · refine ⟨-1, ?_, by omega, fun h => by omega⟩
      unfold laws_szDisk.f
      exact Cv.bind hs (Cv.neg hneg (Cv.bind ht (Cv.pos hneg2 (Cv.of rfl))))
    · refine ⟨t, ?_, h3, fun h => by have := h2 (by omega); have := h4 h; omega⟩
      unfold laws_szDisk.f
      exact Cv.bind hs (Cv.neg hneg (Cv.bind ht (Cv.neg hneg2 (Cv.of rfl))))
theorem le_totL {l : List Int} : ∀ {ls : List (List Int)}, l ∈ ls → l.length ≤ totL ls
  | x :: r, h => by
    rcases List.mem_cons.1 h with rfl | h
    · simp [totL]
    · have := le_totL h
      simp only [totL]
      omega
theorem le_totP4 {q : S184} : ∀ {ls : List S184}, q ∈ ls → q.f1.length ≤ totP4 ls
  | x :: r, h => by
    rcases List.mem_cons.1 h with rfl | h
    · simp [totP4]
    · have := le_totP4 h
      simp only [totP4]
      omega
theorem totP_cv : ∀ (ps : List S184), totP (ps.map cv) = totP4 ps + ps.length
  | [] => rfl
  | p :: r => by
    simp only [List.map_cons, totP, totP4, totP_cv r, cv, List.length_cons]
    omega

/-! ### comparisons -/
theorem eqSS_l0 : ∀ (r pre : List (List Int)), (∀ l ∈ r, l.length ≤ 9223372036854775806) → (pre ++ r).length ≤ 9223372036854775806 → Cv (fun k => laws_eqByteSS.l0 k (pre ++ r) (pre ++ r) (pre.length : Int)) true
  | [], pre, h, hm => Cv.step (fun k => laws_eqByteSS.l0.eq_2 _ _ _ k) (Cv.neg (by simp) (Cv.of rfl))
  | x :: r, pre, h, hm => by
    have h1 := mid_len pre r x
    refine Cv.step (fun k => laws_eqByteSS.l0.eq_2 _ _ _ k) (Cv.pos (by omega) (Cv.pos (by omega) (Cv.pos (by omega) ?_)))
    rw [show rd_L2 (pre ++ x :: r) (pre.length : Int) = x from getD_mid _ _ _ _]
    refine Cv.bind (eqB (h x List.mem_cons_self)) (Cv.pos (decide_eq_true rfl) ?_)
    rw [w64 (by omega) (by omega), mid_snoc, ← snoc_len pre x]
    exact eqSS_l0 r (pre ++ [x]) (fun l hl => h l (List.mem_cons_of_mem _ hl)) (by simpa using hm)
theorem eqPS_l0 : ∀ (r pre : List S185), (∀ l ∈ r, l.f1.length ≤ 9223372036854775806) → (pre ++ r).length ≤ 9223372036854775806 → Cv (fun k => laws_eqPendS.l0 k (pre ++ r) (pre ++ r) (pre.length : Int)) true
  | [], pre, h, hm => Cv.step (fun k => laws_eqPendS.l0.eq_2 _ _ _ k) (Cv.neg (by simp) (Cv.of rfl))
  | x :: r, pre, h, hm => by
    have h1 := mid_len pre r x
    refine Cv.step (fun k => laws_eqPendS.l0.eq_2 _ _ _ k) (Cv.pos (by omega) (Cv.pos (by omega) (Cv.pos (by omega) ?_)))
    rw [show rd_T185 (pre ++ x :: r) (pre.length : Int) = x from getD_mid _ _ _ _]
    refine Cv.bind (v := true) ?_ (Cv.pos rfl ?_)
    · unfold laws_eqPend.f
      exact Cv.pos rfl (Cv.bind (eqB (h x List.mem_cons_self)) (Cv.pos (decide_eq_true rfl) (Cv.of rfl)))
    rw [w64 (by omega) (by omega), mid_snoc, ← snoc_len pre x]
    exact eqPS_l0 r (pre ++ [x]) (fun l hl => h l (List.mem_cons_of_mem _ hl)) (by simpa using hm)
theorem eqD {ls : List (List Int)} {ps : List S185} (h : ∀ l ∈ ls, l.length ≤ 9223372036854775806) (hm : ls.length ≤ 9223372036854775806) (h' : ∀ l ∈ ps, l.f1.length ≤ 9223372036854775806) (hm' : ps.length ≤ 9223372036854775806) : Cv (fun k => laws_eqDisk.f k ls ps ls ps) true := by
  unfold laws_eqDisk.f
  refine Cv.bind (v := true) ?_ (Cv.pos rfl (Cv.bind (v := true) ?_ (Cv.pos rfl (Cv.of rfl))))
  · unfold laws_eqByteSS.f
    exact Cv.pos rfl (eqSS_l0 ls [] h (by simpa using hm))
  · unfold laws_eqPendS.f
    exact Cv.pos rfl (eqPS_l0 ps [] h' (by simpa using hm'))

/-! ### valid disks -/
def okP (n : Nat) (p : S185) : Prop := 0 ≤ p.f0 ∧ p.f0 < (n : Int) ∧ p.f1.length = 64
instance (n : Nat) (p : S185) : Decidable (okP n p) := by unfold okP; exact inferInstance
def okDisk (safe : List (List Int)) (ps : List S185) : Prop := 1 ≤ safe.length ∧ safe.length ≤ 4096 ∧ ps.length ≤ 5000 ∧ (∀ l ∈ safe, l.length = 64) ∧ ∀ p ∈ ps, okP safe.length p
instance (safe : List (List Int)) (ps : List S185) : Decidable (okDisk safe ps) := by unfold okDisk; exact inferInstance
theorem impl_ok_l1 (safe : List (List Int)) (ps : List S185) : ∀ (r pre : List S185), (pre ++ r).length ≤ 9223372036854775806 → Cv (fun k => impl_DiskOk.l1 k (pre ++ r) ((pre ++ r).length : Int) (pre.length : Int) safe ps) (decide (∀ p ∈ r, okP safe.length p))
  | [], pre, hm => Cv.step (fun k => impl_DiskOk.l1.eq_2 _ _ _ _ _ k) (Cv.neg (by simp) (Cv.of (by simp)))
  | x :: r, pre, hm => by
    have h1 := mid_len pre r x
    refine Cv.step (fun k => impl_DiskOk.l1.eq_2 _ _ _ _ _ k) (Cv.pos (by omega) (Cv.pos (by omega) (Cv.pos (by omega) ?_)))
    rw [show rd_T185 (pre ++ x :: r) (pre.length : Int) = x from getD_mid _ _ _ _]
    by_cases h : okP safe.length x
    · have hh := h
      unfold okP at hh
      refine Cv.neg (by omega) (Cv.neg (by omega) (Cv.pos (by omega) ?_))
      have ih := impl_ok_l1 safe ps r (pre ++ [x]) (by simpa using hm)
      rw [← mid_snoc, snoc_len] at ih
      rw [w64 (by omega) (by omega)]
      have e : decide (∀ p ∈ x :: r, okP safe.length p) = decide (∀ p ∈ r, okP safe.length p) := by simp [h]
      rw [e]
      exact ih
    · rw [decide_eq_false (fun hall => h (hall x List.mem_cons_self))]
      unfold okP at h
      by_cases g1 : x.f0 < 0
      · exact Cv.pos g1 (Cv.of rfl)
      · by_cases g2 : x.f0 ≥ (safe.length : Int)
        · exact Cv.neg g1 (Cv.pos g2 (Cv.of rfl))
        · exact Cv.neg g1 (Cv.neg g2 (Cv.neg (by omega) (Cv.of rfl)))
theorem impl_ok_l0 (safe : List (List Int)) (ps : List S185) (hp : ps.length ≤ 9223372036854775806) : ∀ (r pre : List (List Int)), (pre ++ r).length ≤ 9223372036854775806 → Cv (fun k => impl_DiskOk.l0 k (pre ++ r) ((pre ++ r).length : Int) (pre.length : Int) safe ps) (decide ((∀ l ∈ r, l.length = 64) ∧ ∀ p ∈ ps, okP safe.length p))
  | [], pre, hm => by
    refine Cv.step (fun k => impl_DiskOk.l0.eq_2 _ _ _ _ _ k) (Cv.neg (by simp) ?_)
    have h := impl_ok_l1 safe ps ps [] (by simpa using hp)
    simpa using h
  | x :: r, pre, hm => by
    have h1 := mid_len pre r x
    refine Cv.step (fun k => impl_DiskOk.l0.eq_2 _ _ _ _ _ k) (Cv.pos (by omega) (Cv.pos (by omega) (Cv.pos (by omega) ?_)))
    rw [show rd_L2 (pre ++ x :: r) (pre.length : Int) = x from getD_mid _ _ _ _]
    by_cases h : x.length = 64
    · refine Cv.pos (by omega) ?_
      have ih := impl_ok_l0 safe ps hp r (pre ++ [x]) (by simpa using hm)
      rw [← mid_snoc, snoc_len] at ih
      rw [w64 (by omega) (by omega)]
      have e : decide ((∀ l ∈ x :: r, l.length = 64) ∧ ∀ p ∈ ps, okP safe.length p) = decide ((∀ l ∈ r, l.length = 64) ∧ ∀ p ∈ ps, okP safe.length p) := by simp [h]
      rw [e]
      exact ih
    · rw [decide_eq_false (fun hall => h (hall.1 x List.mem_cons_self))]
      exact Cv.neg (by omega) (Cv.of rfl)
theorem impl_ok {safe : List (List Int)} {ps : List S185} : Cv (fun k => impl_DiskOk.f k safe ps) (decide (okDisk safe ps)) := by
  have hj : ∀ (c : Bool), c = true → Cv (fun k => impl_DiskOk.j0 k c safe ps) false := fun c hc => Cv.step (fun k => impl_DiskOk.j0.eq_2 _ _ _ k) (Cv.pos hc (Cv.of rfl))
  unfold impl_DiskOk.f
  by_cases h1 : (safe.length : Int) < 1
  · rw [decide_eq_false (p := okDisk safe ps) (fun h => by unfold okDisk at h; omega)]
    exact Cv.pos h1 (hj _ rfl)
  refine Cv.neg h1 ?_
  by_cases h2 : (safe.length : Int) > 4096
  · rw [decide_eq_false (p := okDisk safe ps) (fun h => by unfold okDisk at h; omega)]
    exact Cv.pos h2 (hj _ rfl)
  refine Cv.neg h2 ?_
  by_cases h3 : (ps.length : Int) > 5000
  · rw [decide_eq_false (p := okDisk safe ps) (fun h => by unfold okDisk at h; omega)]
    exact hj _ (decide_eq_true h3)
  · rw [show decide ((ps.length : Int) > 5000) = false from decide_eq_false h3]
    refine Cv.step (fun k => impl_DiskOk.j0.eq_2 _ _ _ k) (Cv.neg (by decide) ?_)
    have h := impl_ok_l0 safe ps (by omega) safe [] (by simp; omega)
    have e : decide (okDisk safe ps) = decide ((∀ l ∈ safe, l.length = 64) ∧ ∀ p ∈ ps, okP safe.length p) := by
      have g1 : 1 ≤ safe.length := by omega
      have g2 : safe.length ≤ 4096 := by omega
      have g3 : ps.length ≤ 5000 := by omega
      unfold okDisk
      simp [g1, g2, g3]
    rw [e]
    exact h
theorem spec_ok_l1 (safe : List (List Int)) : ∀ (r pre : List S185), (pre ++ r).length ≤ 9223372036854775806 → Cv (fun k => spec_DiskOk.l1 k (safe.length : Int) (pre.length : Int) safe (pre ++ r)) (decide (∀ p ∈ r, okP safe.length p))
  | [], pre, hm => Cv.step (fun k => spec_DiskOk.l1.eq_2 _ _ _ _ k) (Cv.neg (by simp) (Cv.of (by simp)))
  | x :: r, pre, hm => by
    have h1 := mid_len pre r x
    refine Cv.step (fun k => spec_DiskOk.l1.eq_2 _ _ _ _ k) (Cv.pos (by omega) (Cv.pos (by omega) ?_))
    rw [show rd_T185 (pre ++ x :: r) (pre.length : Int) = x from getD_mid _ _ _ _]
    by_cases h : okP safe.length x
    · have hh := h
      unfold okP at hh
      refine Cv.neg (by omega) (Cv.neg (by omega) (Cv.pos (by omega) ?_))
      have ih := spec_ok_l1 safe r (pre ++ [x]) (by simpa using hm)
      rw [← mid_snoc, snoc_len] at ih
      rw [w64 (by omega) (by omega)]
      have e : decide (∀ p ∈ x :: r, okP safe.length p) = decide (∀ p ∈ r, okP safe.length p) := by simp [h]
      rw [e]
      exact ih
    · rw [decide_eq_false (fun hall => h (hall x List.mem_cons_self))]
      unfold okP at h
      by_cases g1 : x.f0 < 0
      · exact Cv.pos g1 (Cv.of rfl)
      · by_cases g2 : x.f0 ≥ (safe.length : Int)
        · exact Cv.neg g1 (Cv.pos g2 (Cv.of rfl))
        · exact Cv.neg g1 (Cv.neg g2 (Cv.neg (by omega) (Cv.of rfl)))
theorem spec_ok_l0 (ps : List S185) (hp : ps.length ≤ 9223372036854775806) : ∀ (r pre : List (List Int)), (pre ++ r).length ≤ 9223372036854775806 → Cv (fun k => spec_DiskOk.l0 k ((pre ++ r).length : Int) (pre.length : Int) (pre ++ r) ps) (decide ((∀ l ∈ r, l.length = 64) ∧ ∀ p ∈ ps, okP (pre ++ r).length p))
  | [], pre, hm => by
    refine Cv.step (fun k => spec_DiskOk.l0.eq_2 _ _ _ _ k) (Cv.neg (by simp) ?_)
    have h := spec_ok_l1 (pre ++ []) ps [] (by simpa using hp)
    simpa using h
  | x :: r, pre, hm => by
    have h1 := mid_len pre r x
    refine Cv.step (fun k => spec_DiskOk.l0.eq_2 _ _ _ _ k) (Cv.pos (by omega) (Cv.pos (by omega) (Cv.pos (by omega) ?_)))
    rw [show rd_L2 (pre ++ x :: r) (pre.length : Int) = x from getD_mid _ _ _ _]
    by_cases h : x.length = 64
    · refine Cv.pos (by omega) ?_
      have ih := spec_ok_l0 ps hp r (pre ++ [x]) (by simpa using hm)
      rw [← mid_snoc, snoc_len] at ih
      rw [w64 (by omega) (by omega)]
      have e : decide ((∀ l ∈ x :: r, l.length = 64) ∧ ∀ p ∈ ps, okP (pre ++ x :: r).length p) = decide ((∀ l ∈ r, l.length = 64) ∧ ∀ p ∈ ps, okP (pre ++ x :: r).length p) := by simp [h]
      rw [e]
      exact ih
    · rw [decide_eq_false (fun hall => h (hall.1 x List.mem_cons_self))]
      exact Cv.neg (by omega) (Cv.of rfl)
theorem spec_ok {safe : List (List Int)} {ps : List S185} : Cv (fun k => spec_DiskOk.f k safe ps) (decide (okDisk safe ps)) := by
  have hj : ∀ (c : Bool), c = true → Cv (fun k => spec_DiskOk.j0 k (safe.length : Int) c safe ps) false := fun c hc => Cv.step (fun k => spec_DiskOk.j0.eq_2 _ _ _ _ k) (Cv.pos hc (Cv.of rfl))
  unfold spec_DiskOk.f
  by_cases h1 : (safe.length : Int) < 1
  · rw [decide_eq_false (p := okDisk safe ps) (fun h => by unfold okDisk at h; omega)]
    exact Cv.pos h1 (hj _ rfl)
  refine Cv.neg h1 ?_
  by_cases h2 : (safe.length : Int) > 4096
  · rw [decide_eq_false (p := okDisk safe ps) (fun h => by unfold okDisk at h; omega)]
    exact Cv.pos h2 (hj _ rfl)
  refine Cv.neg h2 ?_
  by_cases h3 : (ps.length : Int) > 5000
  · rw [decide_eq_false (p := okDisk safe ps) (fun h => by unfold okDisk at h; omega)]
    exact hj _ (decide_eq_true h3)
  · rw [show decide ((ps.length : Int) > 5000) = false from decide_eq_false h3]
    refine Cv.step (fun k => spec_DiskOk.j0.eq_2 _ _ _ _ k) (Cv.neg (by decide) ?_)
    have h := spec_ok_l0 ps (by omega) safe [] (by simp; omega)
    have e : decide (okDisk safe ps) = decide ((∀ l ∈ safe, l.length = 64) ∧ ∀ p ∈ ps, okP safe.length p) := by
      have g1 : 1 ≤ safe.length := by omega
      have g2 : safe.length ≤ 4096 := by omega
      have g3 : ps.length ≤ 5000 := by omega
      unfold okDisk
      simp [g1, g2, g3]
    rw [e]
    exact h

/-! ### what sectors hold now -/
def nowL (safe : List (List Int)) (ps : List S185) : List (List Int) := ps.foldl (fun s p => s.set p.f0.toNat p.f1) safe
theorem nowL_length : ∀ (ps : List S185) (safe : List (List Int)), (nowL safe ps).length = safe.length
  | [], _ => rfl
  | p :: r, safe => by
    have := nowL_length r (safe.set p.f0.toNat p.f1)
    simpa [nowL] using this
theorem nowL_snoc (safe : List (List Int)) (ps : List S185) (p : S185) : nowL safe (ps ++ [p]) = (nowL safe ps).set p.f0.toNat p.f1 := by
  unfold nowL
  rw [List.foldl_append]
  rfl
theorem spec_now_l0 (s0 : List (List Int)) (n : Nat) (hn : n ≤ 4096) : ∀ (r pre : List S185) (acc : List (List Int)), (pre ++ r).length ≤ 9223372036854775806 → acc.length = n → (∀ p ∈ r, okP n p) → Cv (fun k => spec_l1Now.l0 k acc (pre.length : Int) s0 (pre ++ r)) (nowL acc r)
  | [], pre, acc, hm, ha, hr => Cv.step (fun k => spec_l1Now.l0.eq_2 _ _ _ _ k) (Cv.neg (by simp) (Cv.of rfl))
  | x :: r, pre, acc, hm, ha, hr => by
    have h1 := mid_len pre r x
    have hx := hr x List.mem_cons_self
    unfold okP at hx
    refine Cv.step (fun k => spec_l1Now.l0.eq_2 _ _ _ _ k) (Cv.pos (by omega) (Cv.pos (by omega) ?_))
    rw [show rd_T185 (pre ++ x :: r) (pre.length : Int) = x from getD_mid _ _ _ _]
    refine Cv.pos (by omega) (Cv.pos (by omega) ?_)
    have ih := spec_now_l0 s0 n hn r (pre ++ [x]) (acc.set x.f0.toNat x.f1) (by simpa using hm) (by simpa using ha) (fun p hp => hr p (List.mem_cons_of_mem _ hp))
    rw [← mid_snoc, snoc_len] at ih
    rw [w64 (by omega) (by omega)]
    exact ih
theorem spec_now {safe : List (List Int)} {ps : List S185} (h : okDisk safe ps) : Cv (fun k => spec_l1Now.f k safe ps) (nowL safe ps) := by
  obtain ⟨h1, h2, h3, h4, h5⟩ := h
  unfold spec_l1Now.f
  refine Cv.bind (Cv.of rfl) (Cv.pos (by simp; omega) ?_)
  exact spec_now_l0 safe safe.length h2 ps [] ([] ++ safe) (by simp; omega) (by simp) h5
theorem lastM_range : ∀ (n : Nat) (ps : List S185), ps.length = n → ∀ y i, lastM ps y = some i → 0 ≤ i ∧ i < (ps.length : Int)
  | 0, ps, hn, y, i, h => by
    obtain rfl := List.eq_nil_of_length_eq_zero hn
    rw [lastM_nil] at h
    cases h
  | n + 1, ps, hn, y, i, h => by
    obtain ⟨qs, q, rfl⟩ : ∃ qs q, ps = qs ++ [q] := by
      rcases List.eq_nil_or_concat ps with rfl | ⟨qs, q, e⟩
      · simp at hn
      · exact ⟨qs, q, by simpa using e⟩
    have hl : qs.length = n := by simpa using hn
    rw [lastM_snoc] at h
    dsimp only at h
    by_cases hy : y = q.f0
    · rw [if_pos hy] at h
      obtain rfl := Option.some.inj h
      simp
      omega
    · rw [if_neg hy] at h
      have := lastM_range n qs hl y i h
      simp
      omega
theorem now_last {safe : List (List Int)} : ∀ (n : Nat) (ps : List S185), ps.length = n → (∀ p ∈ ps, okP safe.length p) → ∀ y, 0 ≤ y → y < (safe.length : Int) →
    rd_L2 (nowL safe ps) y = (match lastM ps y with | some i => (rd_T185 ps i).f1 | none => rd_L2 safe y)
  | 0, ps, hn, hp, y, h0, h1 => by
    obtain rfl := List.eq_nil_of_length_eq_zero hn
    rw [lastM_nil]
    rfl
  | n + 1, ps, hn, hp, y, h0, h1 => by
    obtain ⟨qs, q, rfl⟩ : ∃ qs q, ps = qs ++ [q] := by
      rcases List.eq_nil_or_concat ps with rfl | ⟨qs, q, e⟩
      · simp at hn
      · exact ⟨qs, q, by simpa using e⟩
    have hl : qs.length = n := by simpa using hn
    have hq := hp q (by simp)
    unfold okP at hq
    have ih := now_last n qs hl (fun p h => hp p (by simp [h])) y h0 h1
    have hnl := nowL_length qs safe
    rw [lastM_snoc, nowL_snoc]
    dsimp only
    by_cases hy : y = q.f0
    · rw [if_pos hy]
      subst hy
      dsimp only
      have e1 : rd_T185 (qs ++ [q]) (qs.length : Int) = q := by
        have := getD_mid qs [] q z185
        exact this
      rw [e1]
      unfold rd_L2
      rw [List.getD_eq_getElem?_getD, List.getElem?_set_self (by omega)]
      rfl
    · rw [if_neg hy]
      have e2 : rd_L2 ((nowL safe qs).set q.f0.toNat q.f1) y = rd_L2 (nowL safe qs) y := by
        unfold rd_L2
        rw [List.getD_eq_getElem?_getD, List.getElem?_set_ne (by omega), List.getD_eq_getElem?_getD]
      rw [e2, ih]
      cases hm : lastM qs y with
      | none => rfl
      | some i =>
        have hi := lastM_range n qs hl y i hm
        dsimp only
        congr 1
        unfold rd_T185
        rw [List.getD_eq_getElem?_getD, List.getD_eq_getElem?_getD, List.getElem?_append_left (by omega)]

/-! ### ReadSector -/
def rsV (safe : List (List Int)) (ps : List S185) (x : Int) : List Int × Bool := if okDisk safe ps ∧ 0 ≤ x ∧ x < (safe.length : Int) then (rd_L2 (nowL safe ps) x, true) else ([], false)
theorem nowL_len : ∀ (ps : List S185) (safe : List (List Int)), (∀ l ∈ safe, l.length = 64) → (∀ p ∈ ps, p.f1.length = 64) → ∀ l ∈ nowL safe ps, l.length = 64
  | [], _, h, _ => h
  | p :: r, safe, h, hp => by
    refine nowL_len r (safe.set p.f0.toNat p.f1) (fun l hl => ?_) (fun q hq => hp q (List.mem_cons_of_mem _ hq))
    rcases List.mem_or_eq_of_mem_set hl with h1 | h1
    · exact h l h1
    · rw [h1]; exact hp p List.mem_cons_self
theorem rd_L2_mem {ls : List (List Int)} {x : Int} (h0 : 0 ≤ x) (h1 : x < (ls.length : Int)) : rd_L2 ls x ∈ ls := by
  unfold rd_L2
  rw [List.getD_eq_getElem?_getD, List.getElem?_eq_getElem (by omega)]
  exact List.getElem_mem _
theorem rows_len {w : World} {A : Option Addr} {n : Nat} {xs : List (List Int)} (h : Kd.C (Kd.slice 5 (Kd.int .u8)) w A n xs) : ∀ l ∈ xs, l.length ≤ 9223372036854775807 := by
  intro l hl
  obtain ⟨i, hi⟩ := List.getElem?_of_mem hl
  have hn : 0 < n := by
    have := (List.getElem?_eq_some_iff.1 hi).1
    rw [h.1] at this
    omega
  obtain ⟨ad, _, hc⟩ := h.2.2 hn
  obtain ⟨c, _, ⟨A', c', _, _, hC⟩, _⟩ := hc i l hi
  exact hC.2.1
theorem pends_len {w : World} {A : Option Addr} {n : Nat} {xs : List S184} (h : Kd.C k184 w A n xs) : ∀ q ∈ xs, q.f1.length ≤ 9223372036854775807 := by
  intro q hq
  obtain ⟨i, hi⟩ := List.getElem?_of_mem hq
  have hn : 0 < n := by
    have := (List.getElem?_eq_some_iff.1 hi).1
    rw [h.1] at this
    omega
  obtain ⟨ad, _, hc⟩ := h.2.2 hn
  obtain ⟨c, _, hK, _⟩ := hc i q hi
  obtain ⟨A', c', _, _, hC⟩ := k184_open hK
  exact hC.2.1
end Go.Proofs.Ytlopmffdebhpfaa.Pure

/-! ## Open -/
namespace Go.Proofs.Ytlopmffdebhpfaa.G
open Go.RowKit Go.ChangeShapes Go.WideShapes Go.ChangeAt Go.Proofs.YtlopmffdebhpfaaW.PrintWords Go.Proofs.YtlopmffdebhpfaaW.PrintLast Go.Proofs.YtlopmffdebhpfaaW.PrintMore
section
variable {H : Type} {enc : TypeId × Value → H} {P : Program} {w : World} {base : Nat} {spare : Nat → Bool} {held : Bool}
theorem choose_list {α : Type} (n : Nat) (R : Nat → α → Prop) (h : ∀ i, i < n → ∃ x, R i x) : ∃ xs : List α, xs.length = n ∧ ∀ i x, xs[i]? = some x → R i x := by
  induction n with
  | zero => exact ⟨[], rfl, fun i x hx => by simp at hx⟩
  | succ n ih =>
    obtain ⟨xs, hl, hx⟩ := ih (fun i hi => h i (by omega))
    obtain ⟨y, hy⟩ := h n (by omega)
    refine ⟨xs ++ [y], by simp [hl], fun i x hi => ?_⟩
    rcases Nat.lt_or_ge i xs.length with h1 | h1
    · rw [List.getElem?_append_left h1] at hi
      exact hx i x hi
    · rw [List.getElem?_append_right h1] at hi
      have h2 : i - xs.length = 0 := by
        have := (List.getElem?_eq_some_iff.1 hi).1
        simp at this
        omega
      rw [h2] at hi
      obtain rfl : y = x := by simpa using hi
      rw [show i = n by omega]
      exact hy
/-- A slice's reading tells a row that is read. -/
theorem open_rows {α : Type} (d : Kd α) (wf : α → Prop) {t e : TypeId} {fuel : Nat} {cs : List Value} {x : DataW H × List MemPlace} (ht : P.underlying t = some (.slice e)) (hsz : P.cellsOf e = d.sz)
    (hel : ∀ n cs y, DataW.trod enc P w base spare held n e cs = some y → ∃ z, d.K w z cs ∧ wf z) (h : DataW.trod enc P w base spare held fuel t cs = some x) :
    ∃ A c zs, cs = [.slice A zs.length c] ∧ zs.length ≤ c ∧ Kd.C d w A zs.length zs ∧ ∀ z ∈ zs, wf z := by
  rcases DataW.trod_slice ht h with ⟨rfl, _⟩ | ⟨a, len, cap, elems, rest, n, _, rfl, _, _, hl, hm, hlen, hE, _⟩
  · exact ⟨none, 0, [], rfl, Nat.le_refl _, ⟨rfl, Nat.zero_le _, fun h0 => absurd h0 (Nat.lt_irrefl 0)⟩, fun z hz => by cases hz⟩
  have hpick : ∀ i, i < len → ∃ z : α, wf z ∧ ∃ c, c.length = d.sz ∧ d.K w z c ∧ ∀ j u, c[j]? = some u → w.cell? (a.add (i * d.sz + j)) = some u := by
    intro i hi
    have h1 := hE i hi
    rw [List.getElem?_eq_getElem (by omega), Option.bind_eq_some_iff] at h1
    obtain ⟨c, hc, hy⟩ := h1
    obtain ⟨z, hK, hz⟩ := hel n c _ hy
    obtain ⟨_, hcl, hcc⟩ := World.cells?_some hc
    refine ⟨z, hz, c, by rw [hcl, hsz], hK, fun j u hu => ?_⟩
    have hj : j < P.cellsOf e := by
      have := (List.getElem?_eq_some_iff.1 hu).1
      omega
    have h2 := hcc j hj
    rw [hu] at h2
    rw [← h2, hsz]
    by_cases z1 : i * d.sz = 0 <;> by_cases z2 : j = 0 <;> simp [Addr.add, z1, z2, Nat.add_assoc]
  obtain ⟨zs, hzl, hzs⟩ := choose_list len _ hpick
  refine ⟨some a, cap, zs, by rw [hzl], by omega, ⟨rfl, by rw [hzl]; exact Nat.le_trans hl hm, fun _ => ⟨a, rfl, fun j p hp => (hzs j p hp).2⟩⟩, fun z hz => ?_⟩
  obtain ⟨i, hi⟩ := List.getElem?_of_mem hz
  exact (hzs i z hi).1
theorem open_el_int {k : IntKind} {e : TypeId} (he : P.underlying e = some (.int k)) (n : Nat) (cs : List Value) (y : DataW H × List MemPlace) (h : DataW.trod enc P w base spare held n e cs = some y) : ∃ z, (Kd.int k).K w z cs ∧ (Lit.int k z).wf = true := by
  obtain ⟨m, rfl, _, hw⟩ := DataW.trod_int he h
  exact ⟨m, rfl, hw⟩
theorem two_of_length {α : Type} : ∀ {l : List α}, l.length = 2 → ∃ u v, l = [u, v]
  | [u, v], _ => ⟨u, v, rfl⟩
/-- A row of bytes. -/
def Wb (l : List Int) : Prop := ∀ x ∈ l, (Lit.int .u8 x).wf = true
theorem open_el_bytes {t e : TypeId} (ht : P.underlying t = some (.slice e)) (he : P.underlying e = some (.int .u8)) (hc : P.cellsOf e = 1) (n : Nat) (cs : List Value) (y : DataW H × List MemPlace) (h : DataW.trod enc P w base spare held n t cs = some y) : ∃ z, (Kd.slice e (Kd.int .u8)).K w z cs ∧ Wb z := by
  obtain ⟨A, c, zs, rfl, hl, hC, hw⟩ := open_rows (Kd.int .u8) (fun x => (Lit.int .u8 x).wf = true) ht hc (open_el_int he) h
  exact ⟨zs, ⟨A, c, rfl, hl, hC⟩, hw⟩
theorem open_el_pend (n : Nat) (cs : List Value) (y : DataW H × List MemPlace) (h : DataW.trod enc Try.prog w base spare held n 184 cs = some y) : ∃ z, k184.K w z cs ∧ ((Lit.int .i64 z.f0).wf = true ∧ Wb z.f1) := by
  obtain ⟨y0, y1, m, _, hlen, h0, h1⟩ := trod_struct2 Try.underlying184 h
  obtain ⟨a, ha, _, hw⟩ := DataW.trod_int Try.underlying3 h0
  obtain ⟨z, hK, hz⟩ := open_el_bytes Try.underlying22 Try.underlying5 (by kernel_rfl) m _ _ h1
  obtain ⟨A, c, hb, hl, hC⟩ := hK
  have h3 : Try.prog.cellsOf 3 = 1 := by kernel_rfl
  have h22 : Try.prog.cellsOf 22 = 1 := by kernel_rfl
  have h184 : Try.prog.cellsOf 184 = 2 := by kernel_rfl
  rw [h184] at hlen
  rw [h3] at ha
  rw [h22] at hb
  obtain ⟨u, v, rfl⟩ := two_of_length hlen
  have ha' : u = .int .i64 a := by simpa using ha
  have hb' : v = .slice A z.length c := by simpa using hb
  rw [ha', hb']
  exact ⟨⟨a, z⟩, k184_mk w ⟨a, z⟩ hl hC, hw, hz⟩
/-- A disk that came in, opened. -/
structure ODisk (w : World) where
  A0 : Option Addr
  c0 : Nat
  A1 : Option Addr
  c1 : Nat
  l0 : List (List Int)
  l1 : List S184
  hc0 : l0.length ≤ c0
  hc1 : l1.length ≤ c1
  hr0 : Kd.C (Kd.slice 5 (Kd.int .u8)) w A0 l0.length l0
  hr1 : Kd.C k184 w A1 l1.length l1
  hw0 : ∀ l ∈ l0, Wb l
  hw1 : ∀ q ∈ l1, (Lit.int .i64 q.f0).wf = true ∧ Wb q.f1
def ODisk.v {w : World} (o : ODisk w) : Value := .agg #[.slice o.A0 o.l0.length o.c0, .slice o.A1 o.l1.length o.c1]
set_option maxRecDepth 100000 in
/-- A disk by value: its sectors and its pending writes. -/
theorem open_disk {r : Reach} {b0 : Nat} {v : Value} {d : DataW H} {p : List MemPlace} (hv : Value.okWide Try.prog w r b0 39 v) (h : DataW.Trod enc Try.prog w base spare held 39 v d p) : ∃ o : ODisk w, v = o.v := by
  obtain ⟨v0, v1, y0, y1, n, rfl, _, _, h0, h1⟩ := Go.Joins.open_agg2 Try.underlying39 (by kernel_rfl) (by kernel_rfl) hv h
  obtain ⟨A0, c0, l0, e0, hl0, hC0, hw0⟩ := open_rows (Kd.slice 5 (Kd.int .u8)) Wb Try.underlying36 (by kernel_rfl) (open_el_bytes Try.underlying22 Try.underlying5 (by kernel_rfl)) h0
  obtain ⟨A1, c1, l1, e1, hl1, hC1, hw1⟩ := open_rows k184 (fun q => (Lit.int .i64 q.f0).wf = true ∧ Wb q.f1) Try.underlying37 (by kernel_rfl) open_el_pend h1
  injection e0 with e0
  injection e1 with e1
  subst e0
  subst e1
  exact ⟨⟨A0, c0, A1, c1, l0, l1, hl0, hl1, hC0, hC1, hw0, hw1⟩, rfl⟩
end
end Go.Proofs.Ytlopmffdebhpfaa.G

/-! ## PureFnExactReadPage -/
namespace Go.Proofs.Ytlopmffdebhpfaa.Pure
open Go.RowKit Go.Proofs.Ytlopmffdebhpfaa.G Go.Proofs.YtlopmffdebhpfaaW.PrintWords Go.Proofs.YtlopmffdebhpfaaW.PrintLast Go.Proofs.YtlopmffdebhpfaaW.PrintMore
/-- The bytes of a page's first n sectors. -/
def pb (now : List (List Int)) (id : Int) : Nat → List Int
  | 0 => []
  | n + 1 => pb now id n ++ rd_L2 now (4 * id + n)
theorem pb_len {now : List (List Int)} {id : Int} (hl : ∀ l ∈ now, l.length = 64) (h0 : 0 ≤ id) : ∀ (n : Nat), 4 * id + n ≤ (now.length : Int) → (pb now id n).length = 64 * n
  | 0, _ => rfl
  | n + 1, h => by
    have := pb_len hl h0 n (by omega)
    have h2 := hl _ (rd_L2_mem (x := 4 * id + n) (ls := now) (by omega) (by omega))
    simp only [pb, List.length_append, this, h2]
    omega
theorem pb_by {now : List (List Int)} {id : Int} (hb : ∀ l ∈ now, By l) (h0 : 0 ≤ id) : ∀ (n : Nat), 4 * id + n ≤ (now.length : Int) → By (pb now id n)
  | 0, _ => By.nil
  | n + 1, h => (pb_by hb h0 n (by omega)).append (hb _ (rd_L2_mem (x := 4 * id + n) (ls := now) (by omega) (by omega)))
theorem nowL_by : ∀ (ps : List S185) (safe : List (List Int)), (∀ l ∈ safe, By l) → (∀ p ∈ ps, By p.f1) → ∀ l ∈ nowL safe ps, By l
  | [], _, h, _ => h
  | p :: r, safe, h, hp => by
    refine nowL_by r (safe.set p.f0.toNat p.f1) (fun l hl => ?_) (fun q hq => hp q (List.mem_cons_of_mem _ hq))
    rcases List.mem_or_eq_of_mem_set hl with h1 | h1
    · exact h l h1
    · rw [h1]; exact hp p List.mem_cons_self
def rpV (safe : List (List Int)) (ps : List S185) (id : Int) : Int × List Int × Bool := if okDisk safe ps ∧ 0 ≤ id ∧ id < (safe.length : Int) / 4 then decV id (pb (nowL safe ps) id 4) else (0, [], false)
theorem rpV_len (safe : List (List Int)) (ps : List S185) (id : Int) : (rpV safe ps id).2.1.length ≤ 1048576 := by
  unfold rpV
  split
  · rename_i h
    obtain ⟨⟨h1, h2, h3, h4, h5⟩, h6, h7⟩ := h
    have hn := nowL_length ps safe
    have hl := pb_len (now := nowL safe ps) (id := id) (nowL_len ps safe h4 (fun p hp => (h5 p hp).2.2)) h6 4 (by omega)
    unfold decV
    split
    · show (bodyOf _).length ≤ _
      unfold bodyOf
      rw [List.length_drop, List.length_take, hl]
      omega
    · simp
  · simp
theorem spec_view_l0 {now : List (List Int)} {id : Int} (hl : ∀ l ∈ now, l.length = 64) (hn : now.length ≤ 4096) (hb : ∀ l ∈ now, By l) (h0 : 0 ≤ id) (h1 : id < (now.length : Int) / 4) : ∀ (m n : Nat), n + m = 4 → Cv (fun k => spec_l2View_page.l0 k id (pb now id n) (n : Int) now) (decV id (pb now id 4))
  | 0, n, h => by
    obtain rfl : n = 4 := by omega
    refine Cv.step (fun k => spec_l2View_page.l0.eq_2 _ _ _ _ k) (Cv.neg (by decide) (Cv.bind (spec_dec (pb_by hb h0 4 (by omega))) (Cv.of rfl)))
  | m + 1, n, h => by
    have hw : wrap64 (wrap64 (4 * id) + (n : Int)) = 4 * id + n := by rw [w64 (n := 4 * id) (by omega) (by omega), w64 (by omega) (by omega)]
    have hmem := hl _ (rd_L2_mem (x := 4 * id + n) (ls := now) (by omega) (by omega))
    have hpl := pb_len hl h0 n (by omega)
    refine Cv.step (fun k => spec_l2View_page.l0.eq_2 _ _ _ _ k) (Cv.pos (by omega) ?_)
    rw [hw, w64 (n := (n : Int) + 1) (by omega) (by omega)]
    refine Cv.pos (by omega) (Cv.pos (by omega) (Cv.pos (by omega) ?_))
    exact spec_view_l0 hl hn hb h0 h1 m (n + 1) (by omega)
theorem spec_rp {safe : List (List Int)} {ps : List S185} {id : Int} (hb0 : ∀ l ∈ safe, By l) (hb1 : ∀ p ∈ ps, By p.f1) : Cv (fun k => spec_ReadPage.f k safe ps id) (rpV safe ps id) := by
  unfold spec_ReadPage.f
  refine Cv.bind spec_ok ?_
  by_cases hok : okDisk safe ps
  case neg =>
    have e : rpV safe ps id = (0, [], false) := if_neg (fun h => hok h.1)
    rw [e]
    exact Cv.neg (by rw [decide_eq_true_eq]; exact hok) (Cv.of rfl)
  refine Cv.pos (decide_eq_true hok) (Cv.bind (spec_now hok) (Cv.bind (v := rpV safe ps id) ?_ (Cv.of rfl)))
  have hn := nowL_length ps safe
  have hlen := nowL_len ps safe hok.2.2.2.1 (fun p hp => (hok.2.2.2.2 p hp).2.2)
  have hby := nowL_by ps safe hb0 hb1
  have hsz := hok.2.1
  have hj : ∀ (c : Bool), c = true → Cv (fun k => spec_l2View_page.j0 k id c (nowL safe ps)) (0, [], false) := fun c hc => Cv.step (fun k => spec_l2View_page.j0.eq_2 _ _ _ k) (Cv.pos hc (Cv.of rfl))
  unfold spec_l2View_page.f
  by_cases h0 : id < 0
  · have e : rpV safe ps id = (0, [], false) := if_neg (fun h => by omega)
    rw [e]
    exact Cv.pos h0 (hj _ rfl)
  refine Cv.neg h0 ?_
  rw [hn, w64 (n := (safe.length : Int) / 4) (by omega) (by omega)]
  by_cases h1 : id ≥ (safe.length : Int) / 4
  · have e : rpV safe ps id = (0, [], false) := if_neg (fun h => by omega)
    rw [e]
    exact hj _ (decide_eq_true h1)
  have e : rpV safe ps id = decV id (pb (nowL safe ps) id 4) := if_pos ⟨hok, by omega, by omega⟩
  rw [e, show decide (id ≥ (safe.length : Int) / 4) = false from decide_eq_false h1]
  exact Cv.step (fun k => spec_l2View_page.j0.eq_2 _ _ _ k) (Cv.neg (by decide) (spec_view_l0 hlen (by omega) hby (by omega) (by omega) 4 0 rfl))
theorem sector_ok {safe : List (List Int)} {ps : List S185} (hok : okDisk safe ps) {x : Int} (h0 : 0 ≤ x) (h1 : x < (safe.length : Int)) : impl_sector.f safe ps x = some (rd_L2 (nowL safe ps) x, true) := by
  unfold impl_sector.f
  rw [if_pos ⟨h0, h1⟩]
  have hl := now_last (safe := safe) ps.length ps rfl hok.2.2.2.2 x h0 h1
  cases hm : lastM ps x with
  | none =>
    rw [hm] at hl
    dsimp only at hl ⊢
    rw [hl]
  | some i =>
    rw [hm] at hl
    dsimp only at hl ⊢
    rw [if_pos (lastM_range _ ps rfl x i hm), hl]
theorem acc_ok {safe : List (List Int)} {ps : List S185} (hok : okDisk safe ps) {id : Int} (h0 : 0 ≤ id) : ∀ (n : Nat), 4 * id + n ≤ (safe.length : Int) → accS safe ps id n = some (pb (nowL safe ps) id n)
  | 0, _ => rfl
  | n + 1, h => by
    have hn := nowL_length ps safe
    have hlen := nowL_len ps safe hok.2.2.2.1 (fun p hp => (hok.2.2.2.2 p hp).2.2)
    have hsz := hok.2.1
    have hpl := pb_len (now := nowL safe ps) hlen h0 n (by omega)
    have hmem := hlen _ (rd_L2_mem (x := 4 * id + n) (ls := nowL safe ps) (by omega) (by omega))
    unfold accS
    rw [acc_ok hok h0 n (by omega), Option.bind_some, sector_ok hok (by omega) (by omega), Option.bind_some, if_pos (by dsimp only; omega)]
    rfl
theorem impl_rp {safe : List (List Int)} {ps : List S185} {id : Int} (hb0 : ∀ l ∈ safe, By l) (hb1 : ∀ p ∈ ps, By p.f1) : Cv (fun k => impl_ReadPage.f k safe ps id) (rpV safe ps id) := by
  unfold impl_ReadPage.f
  refine Cv.bind impl_ok ?_
  by_cases hok : okDisk safe ps
  case neg =>
    have e : rpV safe ps id = (0, [], false) := if_neg (fun h => hok h.1)
    rw [e]
    exact Cv.neg (by rw [decide_eq_true_eq]; exact hok) (Cv.of rfl)
  refine Cv.pos (decide_eq_true hok) ?_
  have hn := nowL_length ps safe
  have hsz := hok.2.1
  by_cases hr : 0 ≤ id ∧ id < (safe.length : Int) / 4
  case neg =>
    have e : rpV safe ps id = (0, [], false) := if_neg (fun h => hr h.2)
    rw [e]
    refine Cv.bind (v := (1, 0, 0, 0, [])) (Cv.of (o := some (1, 0, 0, 0, [])) rfl |>.congr (fun k => ?_)) (Cv.neg (by decide) (Cv.of rfl))
    unfold impl_dpage.f
    rw [if_neg hr]
  have e : rpV safe ps id = decV id (pb (nowL safe ps) id 4) := if_pos ⟨hok, hr⟩
  rw [e]
  have hby : By (pb (nowL safe ps) id 4) := pb_by (nowL_by ps safe hb0 hb1) hr.1 4 (by omega)
  refine (impl_dec (id := id) hby).congr (fun k => ?_)
  unfold impl_dpage.f impl_DecodePage.f
  rw [if_pos hr, acc_ok hok hr.1 4 (by omega), Option.bind_some]
theorem FnExactReadPage (w : World) (o : ODisk w) (x : Int) (hx : (Lit.int .i64 x).wf = true) : Calls Try.prog 10 #[o.v, .int .i64 x] w fun e w' => e = .returned (.bool true) ∧ Below w.heap.size w w' := by
  obtain ⟨A0, c0, A1, c1, l0, l1, hc0, hc1, hr0, hr1, hw0, hw1'⟩ := o
  have hw1 := fun q hq => (hw1' q hq).1
  show Calls Try.prog 10 #[.agg #[.slice A0 l0.length c0, .slice A1 l1.length c1], .int .i64 x] w _
  obtain ⟨s, hs, h1, h2⟩ := szD (ls := l0) (ps := l1) (a := 1048576) (by decide) (by decide) (rows_len hr0) hr0.2.1 (pends_len hr1) hr1.2.1
  obtain ⟨k, hk⟩ := hs.get
  by_cases hneg : s < 0
  · exact laws_FnExactReadPage.small k A0 c0 l0 A1 c1 l1 x s w hr0 hc0 hr1 hc1 hk hneg
  have htot := h2 (by omega)
  have hl0 : ∀ l ∈ l0, l.length ≤ 1048576 := fun l hl => by have := le_totL hl; omega
  have hl1 : ∀ q ∈ l1, q.f1.length ≤ 1048576 := fun q hq => by have := le_totP4 hq; omega
  have hq1 : ∀ q ∈ l1.map cv, q.f1.length ≤ 1048576 := fun q hq => by
    obtain ⟨p, hp, rfl⟩ := List.mem_map.1 hq
    exact hl1 p hp
  have hb0 : ∀ l ∈ l0, By l := fun l hl => By.of_wf (hw0 l hl)
  have hb1 : ∀ q ∈ l1.map cv, By q.f1 := fun q hq => by
    obtain ⟨p, hp, rfl⟩ := List.mem_map.1 hq
    exact By.of_wf (hw1' p hp).2
  have hrl := rpV_len l0 (l1.map cv) x
  have hspec := spec_rp (safe := l0) (ps := l1.map cv) (id := x) hb0 hb1
  have himpl := impl_rp (safe := l0) (ps := l1.map cv) (id := x) hb0 hb1
  generalize rpV l0 (l1.map cv) x = v at hrl hspec himpl
  obtain ⟨rn, ra, rb⟩ := v
  dsimp only at hrl
  obtain ⟨k2, hk2⟩ := (toD (ls := l0) (ps := l1) (fun l hl => by have := hl0 l hl; omega) (by omega) (fun l hl => by have := hl1 l hl; omega) (by omega)).get
  obtain ⟨k3, hk3⟩ := hspec.get
  obtain ⟨k4, hk4⟩ := himpl.get
  obtain ⟨k5, hk5⟩ := (eqB (a := ra) (b := ra) (by omega)).get
  rw [decide_eq_true rfl] at hk5
  obtain ⟨k6, hk6⟩ := (eqD (ls := l0) (ps := l1.map cv) (fun l hl => by have := hl0 l hl; omega) (by omega) (fun l hl => by have := hq1 l hl; omega) (by rw [List.length_map]; omega)).get
  obtain ⟨k7, hk7⟩ := (heldB (n := ra.length) (by omega)).get
  refine laws_FnExactReadPage.full k k2 k3 k4 k5 k6 k7 A0 c0 l0 A1 c1 l1 x s l0 (l1.map cv) rn ra rb w hr0 hc0 hr1 hc1 hk hneg hk2 hk3 hk4 hk5 hk6 ?_ (by omega) hk7 hx (fun p hp => ?_)
  · rw [totP_cv]
    omega
  · obtain ⟨q, hq, rfl⟩ := List.mem_map.1 hp
    exact hw1 q hq
end Go.Proofs.Ytlopmffdebhpfaa.Pure

/-! ## LawFnExactReadPage -/
namespace Go.Proofs.Ytlopmffdebhpfaa.fnExactReadPage
open Go.ChangeShapes Go.WideShapes Go.ChangeAt Go.RowKit
open Go.ChangeMaps (open_string shut_string)
set_option linter.unusedVariables false
theorem own : ownKnob Try.prog.godebug = none := by kernel_rfl
theorem laidOut : laidOutB Try.prog = true := by kernel_rfl
set_option maxRecDepth 100000 in
theorem lifted (os : Os) (started : os.Started) (H : Type) (enc : TypeId × Value → H) :
    ReturnsInHanded {} Try.checked os 10 .any (Rows.fnExactReadPageSpec.pre6 enc Try.prog Try.f10 Rows.fnExactReadPageRow.domain false) (Rows.fnExactReadPageSpec.post enc Try.prog Try.f10 false true false false) := by
  refine returnsInHanded_of_change_sized (C := Try.checked) own started (by kernel_rfl) Try.func10
    (ChangeSpec.witness6 (enc := enc) (C := Try.checked) false ⟨#[], #[.agg #[.slice none 0 0, .slice none 0 0], .int .i64 0], []⟩ 8 (by kernel_rfl) (by kernel_rfl) (by kernel_rfl) (by kernel_rfl)) ?_
  intro W base args ds gs before hval0 hW hcnd hsz0 _
  have hval : ∀ (j : Nat) t v, Try.f10.params[j]? = some t → args[j]? = some v → Value.okWide Try.prog W .any base t v := hval0
  have hW' := hW
  obtain ⟨p, q, hA0, hV, rfl, hfz, hnd⟩ := hW
  have hA : DataW.TrodAll enc Try.prog W 0 (fun _ => true) true Try.f10.params.toList args.toList ds p := hA0
  rw [Try.params10] at hA hval
  obtain ⟨v0, vs0, d0, ds0, p0, q0, hargs, rfl, rfl, h0, r0⟩ := trodAll_cons hA
  obtain ⟨v1, vs1, d1, ds1, p1, q1, rfl, rfl, rfl, h1, r1⟩ := trodAll_cons r0
  obtain ⟨rfl, rfl, rfl⟩ := trodAll_nil r1
  obtain rfl : args = #[v0, v1] := by cases args; simp_all
  obtain ⟨rfl, rfl⟩ := trodVars_none hV
  have k0 := h0
  have lt0 : ∀ x ∈ p0, x.block < W.heap.size := by obtain ⟨m, hm⟩ := k0; exact DataW.trod_lt m _ _ _ hm
  obtain ⟨o0, rfl⟩ := G.open_disk (hval 0 39 v0 rfl rfl) h0
  obtain ⟨a1, rfl, rfl, rfl, w1⟩ := open_int Try.underlying3 (hval 1 3 v1 rfl rfl) h1
  clear hA0 hval0 hsz0
  refine (Pure.FnExactReadPage W o0 _ w1).mono fun e W' ⟨he, bel⟩ => ?_
  subst he
  exact ⟨_, rfl, _, _, _, [], _, [], hW', trodAll_mk1 (shut_bool Try.underlying4 _), (trodAll_cons_mk (Below.trod laidOut (by kernel_rfl) (of_decide_eq_true (by kernel_rfl)) k0 bel lt0) (trodAll_cons_mk (shut_int Try.underlying3 w1) trodAll_mk0)), rfl, bel.frame _, fun h => by cases h⟩
theorem over : Rows.fnExactReadPageRow.holds Try.pinned (OpenSpec.ofChange Rows.fnExactReadPageSpec) :=
  OpenClaim.holds_of_wide 10 Try.f10 rfl rfl rfl rfl rfl rfl rfl ⟨rfl, rfl, rfl, rfl, rfl⟩ rfl rfl rfl rfl rfl (by kernel_rfl) Try.func10 (by kernel_rfl)
    (of_decide_eq_true (by kernel_rfl)) (by unfold Func.isWrapper; first | (rw [if_pos (by decide +kernel)]; kernel_rfl) | (rw [if_neg (by decide +kernel)]; exact ⟨rfl, rfl⟩))
    (fun os started H enc _ => lifted os started H enc)
theorem proved : Rows.FnExactReadPageSaid := over
#print axioms proved
end Go.Proofs.Ytlopmffdebhpfaa.fnExactReadPage
namespace Go.Proofs.Ytlopmffdebhpfaa
/-- The row, under a short name, for the claim. -/
theorem fnExactReadPage_holds : Rows.FnExactReadPageSaid := fnExactReadPage.proved
end Go.Proofs.Ytlopmffdebhpfaa
