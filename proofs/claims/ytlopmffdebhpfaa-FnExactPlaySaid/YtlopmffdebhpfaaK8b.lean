/- Texts of this proof, joined in their build order: L1Do CloneA CopyA G87 G83 DoI Play MarkO G106 G81 G137 G82. -/
import Derived.Test.YtlopmffdebhpfaaK8a
import Derived.BigQuiet
/-! ## L1Do -/
namespace Go.Proofs.Ytlopmffdebhpfaa.G
open Go.RowKit Go.Proofs.YtlopmffdebhpfaaW.PrintWords Go.Proofs.YtlopmffdebhpfaaW.PrintLast Go.Proofs.YtlopmffdebhpfaaW.PrintMore
set_option linter.unusedVariables false
set_option linter.unusedSimpArgs false

/-- Block g is a disk variable with a disk of the call's own. -/
def DskOk (w : World) (base g : Nat) (safe : List (List Int)) (ps : List S185) : Prop :=
  ∃ A0 c0 A1 c1 P Q, w.heap[g]? = some (.cells #[.slice A0 safe.length c0, .slice A1 ps.length c1] 44 (0, 0)) ∧ IsDisk w base P Q (.slice A0 safe.length c0) (.slice A1 ps.length c1) safe ps ∧ base ≤ g
def spec_l1Do.T7 : Bool × List (List Nat × List Nat) := (true, [([], []), ([0], [0]), ([1], [1]), ([2], [2]), ([], []), ([4], [4]), ([5], [5]), ([6], [6]), ([], []), ([7, 8], [7, 8]), ([9], [9]), ([10], [10]), ([], []), ([12], [12]), ([13], [13]), ([14], [14]), ([], []), ([15, 16], [15, 16]), ([17], [17]), ([18], [18]), ([3, 11, 0, 1, 2, 3, 4, 5, 6, 7, 8, 9, 10, 11, 12, 13, 14, 15, 16, 17, 18, 19], [3, 11]), ([20, 19, 0, 1, 2, 3, 4, 5, 6, 7, 8, 9, 10, 11, 12, 13, 14, 15, 16, 17, 18, 19], [19, 20])])
def spec_l1Do.B7 : List Nat := [0, 1, 3, 7, 0, 16, 48, 112, 0, 496, 1008, 2032, 0, 4096, 12288, 28672, 0, 126976, 258048, 520192, 1048575, 2097151]
theorem spec_l1Do.tab7 : rtab .any (opsOf Try.f108 7) = spec_l1Do.T7 := by kernel_rfl
theorem spec_l1Do.bits7 : waitsOk spec_l1Do.T7.2 spec_l1Do.B7 = true := by kernel_rfl
def spec_l1Do.T12 : Bool × List (List Nat × List Nat) := (true, [([], []), ([], []), ([1], [1]), ([2], [2]), ([3], [3]), ([], []), ([5], [5]), ([], []), ([7], [7]), ([8], [8]), ([6, 9], [6, 9]), ([10], [10]), ([4, 11, 9], [4, 11]), ([0, 0, 1, 2, 3, 4, 5, 6, 7, 8, 9, 10, 11, 12], [0]), ([13, 0, 1, 2, 3, 4, 5, 6, 7, 8, 9, 10, 11, 12], [13]), ([14, 12, 12, 0, 1, 2, 3, 4, 5, 6, 7, 8, 9, 10, 11, 12], [12, 14])])
def spec_l1Do.B12 : List Nat := [0, 0, 2, 6, 14, 0, 32, 0, 128, 384, 992, 2016, 4094, 8191, 16383, 32767]
theorem spec_l1Do.tab12 : rtab .any (opsOf Try.f108 12) = spec_l1Do.T12 := by kernel_rfl
theorem spec_l1Do.bits12 : waitsOk spec_l1Do.T12.2 spec_l1Do.B12 = true := by kernel_rfl
set_option maxHeartbeats 16000000 in
set_option maxRecDepth 100000 in
theorem spec_l1Do.calls (g : Nat) (safe : List (List Int)) (ps : List S185) (kind at_ : Int) (Ad : Option Addr) (cd : Nat) (data : List Int) (w0 w : World) (hD : DskOk w w0.heap.size g safe ps) (hB : Below w0.heap.size w0 w) (hr : Kd.C (Kd.int .u8) w0 Ad data.length data) (hc : data.length ≤ cd)
    (hps : ps.length ≤ 1048576) (hsl : safe.length ≤ 1048576) (hrg : ∀ p ∈ ps, 0 ≤ p.f0 ∧ p.f0 < (safe.length : Int)) :
    Calls Try.prog 108 #[.pointer (some ⟨g, 0, none⟩), .agg #[.int .i64 kind, .int .i64 at_, .slice Ad data.length cd]] w fun e w' => e = .returned (.bool (doV safe ps kind at_ data).2) ∧ DskOk w' w0.heap.size g (doV safe ps kind at_ data).1.1 (doV safe ps kind at_ data).1.2 ∧ Below w0.heap.size w0 w' := by
  have hu44 := Try.underlying44
  have hu63 := Try.underlying63
  have hu185 := Try.underlying185
  obtain ⟨⟨⟨sf, pf⟩, rf⟩, hdo⟩ : ∃ r, doV safe ps kind at_ data = r := ⟨_, rfl⟩
  rw [hdo]
  dsimp only
  obtain ⟨A0, c0, A1, c1, P, Q, hd, hdk, hg⟩ := hD
  have HDO := Aside0.mk hdo
  have HR := Aside0.mk hr
  have HC := Aside0.mk hc
  have HPS := Aside0.mk hps
  have HSL := Aside0.mk hsl
  have HRG := Aside0.mk hrg
  have HG := Aside0.mk hg
  have HB := Aside0.mk hB
  have HD := Aside0.mk hdk
  have BG := Aside0.mk hd
  clear hr hc hps hsl hrg hg hB hdk hd hdo
  go_enter Try.func108, Try.ntmps108
  have hdo := HDO.out
  unfold doV at hdo
  clear HDO
  by_cases k2 : kind = 2
  · rw [if_neg (show ¬ kind = 1 by omega), if_pos k2] at hdo
    have e2 : (kind == 2) = true := beq_iff_eq.mpr k2
    clear k2
    by_cases h0 : at_ = 0
    case neg =>
      rw [if_neg h0] at hdo
      have d0 : (at_ != 0) = true := bne_iff_ne.mpr h0
      have d1 : (at_ == 0) = false := beq_eq_false_iff_ne.mpr h0
      clear h0
      obtain ⟨⟨rfl, rfl⟩, rfl⟩ : (safe = sf ∧ ps = pf) ∧ false = rf := by simpa using hdo
      clear hdo
      go_wp2_with (first | ((with_reducible refine gate_dst (N := 3) rfl ?_); refine box_event ?hg (N := 3) ?hd (cs := #[.int .i64 kind, .int .i64 at_, .slice Ad data.length cd]) (t := 63) ?hr ?_; (case hd => rfl); (case hg => rfl); (case hr => first | (go_simp; done) | (go_simp; rfl)); intro g3 hgr w1 hbox hbel; have BP := Aside0.mk hbox; have BG := Aside0.mk (blk_below BG.out hbel); have HD := Aside0.mk (IsDisk_below HD.out hbel); have HB := Aside0.mk (below_step HB.out hbel); have cg0 : w1.cell? ⟨g, 0, none⟩ = some (.slice A0 safe.length c0) := (blk_cell BG.out 0).trans rfl; have cg1 : w1.cell? ⟨g, 1, none⟩ = some (.slice A1 ps.length c1) := (blk_cell BG.out 1).trans rfl; have cp0 : w1.cell? ⟨g3, 0, none⟩ = some (.int .i64 kind) := (blk_cell BP.out 0).trans rfl; have cp1 : w1.cell? ⟨g3, 1, none⟩ = some (.int .i64 at_) := (blk_cell BP.out 1).trans rfl; have cp2 : w1.cell? ⟨g3, 2, none⟩ = some (.slice Ad data.length cd) := (blk_cell BP.out 2).trans rfl; clear hbox hbel hgr))
      go_ret
      exact ⟨rfl, ⟨A0, c0, A1, c1, P, Q, BG.out, HD.out, HG.out⟩, HB.out⟩
    rw [if_pos h0] at hdo
    have d0 : (at_ != 0) = false := bne_eq_false_iff_eq.mpr h0
    have d1 : (at_ == 0) = true := beq_iff_eq.mpr h0
    clear h0
    by_cases h1 : data.length = 0
    case neg =>
      rw [if_neg h1] at hdo
      have d2 : ((data.length : Int) != 0) = true := bne_iff_ne.mpr (by omega)
      have d3 : ((data.length : Int) == 0) = false := beq_eq_false_iff_ne.mpr (by omega)
      clear h1
      obtain ⟨⟨rfl, rfl⟩, rfl⟩ : (safe = sf ∧ ps = pf) ∧ false = rf := by simpa using hdo
      clear hdo
      go_wp2_with (first | ((with_reducible refine gate_dst (N := 3) rfl ?_); refine box_event ?hg (N := 3) ?hd (cs := #[.int .i64 kind, .int .i64 at_, .slice Ad data.length cd]) (t := 63) ?hr ?_; (case hd => rfl); (case hg => rfl); (case hr => first | (go_simp; done) | (go_simp; rfl)); intro g3 hgr w1 hbox hbel; have BP := Aside0.mk hbox; have BG := Aside0.mk (blk_below BG.out hbel); have HD := Aside0.mk (IsDisk_below HD.out hbel); have HB := Aside0.mk (below_step HB.out hbel); have cg0 : w1.cell? ⟨g, 0, none⟩ = some (.slice A0 safe.length c0) := (blk_cell BG.out 0).trans rfl; have cg1 : w1.cell? ⟨g, 1, none⟩ = some (.slice A1 ps.length c1) := (blk_cell BG.out 1).trans rfl; have cp0 : w1.cell? ⟨g3, 0, none⟩ = some (.int .i64 kind) := (blk_cell BP.out 0).trans rfl; have cp1 : w1.cell? ⟨g3, 1, none⟩ = some (.int .i64 at_) := (blk_cell BP.out 1).trans rfl; have cp2 : w1.cell? ⟨g3, 2, none⟩ = some (.slice Ad data.length cd) := (blk_cell BP.out 2).trans rfl; clear hbox hbel hgr))
      go_ret
      exact ⟨rfl, ⟨A0, c0, A1, c1, P, Q, BG.out, HD.out, HG.out⟩, HB.out⟩
    rw [if_pos h1] at hdo
    have d2 : ((data.length : Int) != 0) = false := bne_eq_false_iff_eq.mpr (by omega)
    have d3 : ((data.length : Int) == 0) = true := beq_iff_eq.mpr (by omega)
    clear h1
    obtain ⟨⟨rfl, rfl⟩, rfl⟩ : (syncL safe ps = sf ∧ [] = pf) ∧ true = rf := by simpa using hdo
    clear hdo
    obtain ⟨f, HT0⟩ := HD.out.2.2
    have HT := Aside0.mk HT0
    have HS := Aside0.mk HD.out.2.1
    have HDJ := Aside0.mk HD.out.1
    clear HT0 HD
    go_wp2_with (first | ((with_reducible refine gate_dst (N := 3) rfl ?_); refine box_event ?hg (N := 3) ?hd (cs := #[.int .i64 kind, .int .i64 at_, .slice Ad data.length cd]) (t := 63) ?hr ?_; (case hd => rfl); (case hg => rfl); (case hr => first | (go_simp; done) | (go_simp; rfl)); intro g3 hgr w1 hbox hbel; have BP := Aside0.mk hbox; have BG := Aside0.mk (blk_below BG.out hbel); have HT := Aside0.mk (Kd.R_below HT.out hbel); have HS := Aside0.mk (Kd.S_below HS.out hbel); have HB := Aside0.mk (below_step HB.out hbel); have cg0 : w1.cell? ⟨g, 0, none⟩ = some (.slice A0 safe.length c0) := (blk_cell BG.out 0).trans rfl; have cg1 : w1.cell? ⟨g, 1, none⟩ = some (.slice A1 ps.length c1) := (blk_cell BG.out 1).trans rfl; have cp0 : w1.cell? ⟨g3, 0, none⟩ = some (.int .i64 kind) := (blk_cell BP.out 0).trans rfl; have cp1 : w1.cell? ⟨g3, 1, none⟩ = some (.int .i64 at_) := (blk_cell BP.out 1).trans rfl; have cp2 : w1.cell? ⟨g3, 2, none⟩ = some (.slice Ad data.length cd) := (blk_cell BP.out 2).trans rfl; clear hbox hbel hgr))
    go_loopg [5] ps.length (fun gk v5 w' => ∃ x : Int, v5 = .int .i64 x ∧ Aside0 (0 ≤ x ∧ (gk : Int) + x = (ps.length : Int)) ∧ Aside0 (Kd.S (Kd.slice 5 (Kd.int .u8)) 22 w' w0.heap.size (fun q => P q ∨ (Q q ∧ f q < x.toNat ∧ some q ≠ (.slice A1 ps.length c1 : Value).ownBlock)) (.slice A0 safe.length c0) (syncL safe (ps.take x.toNat))) ∧ Aside0 ((Kd.tag f k185).R 185 w' w0.heap.size Q (.slice A1 ps.length c1) ps.zipIdx) ∧
      Aside0 (w'.heap[g]? = some (.cells #[.slice A0 safe.length c0, .slice A1 ps.length c1] 44 (0, 0))) ∧ Aside0 (Below w0.heap.size w0 w'))
    case atStart =>
      exact ⟨0, rfl, ⟨by omega⟩, ⟨Kd.S_mono HS.out (ok' := fun q => P q ∨ (Q q ∧ f q < (0 : Int).toNat ∧ some q ≠ (.slice A1 ps.length c1 : Value).ownBlock)) (fun q hq => Or.inl hq)⟩, HT, BG, HB⟩
    case round =>
      clear HS HT BG HB cg0 cg1 cp0 cp1 cp2 d0 d1 d2 d3
      obtain ⟨x, rfl, HXK, HS, HT, BG, HB⟩ := hrel
      cases gk with
      | zero =>
        have hx : x = (ps.length : Int) := by have := HXK.out; omega
        subst hx
        have c4b0 : decide ((ps.length : Int) < (ps.length : Int)) = false := decide_eq_false (by omega)
        have hs := HS.out
        rw [Int.toNat_natCast, List.take_length] at hs
        have HS0 := Aside0.mk hs
        clear hs HS HT
        have cg0 : wr.cell? ⟨g, 0, none⟩ = some (.slice A0 safe.length c0) := (blk_cell BG.out 0).trans rfl
        have cg1 : wr.cell? ⟨g, 1, none⟩ = some (.slice A1 ps.length c1) := (blk_cell BG.out 1).trans rfl
        go_wp2_with (first | ((with_reducible refine gate_dst (N := 49) rfl ?_); refine Kd.S_lit k185 _ 185 ?hg (N := 49) ?hd (xs := ([] : List (S185))) (inner := []) (ok := fun _ => True) (okp := fun _ => True) ?hr ?hp (fun _ hk => hk) trivial (Below.refl _ _) (Nat.le_refl _) (by simp) ?_; (case hd => rfl); (case hg => rfl); (case hr => first | (go_simp; done) | (go_simp; rfl)); (case hp => exact (Reps.none _ _)); intro v4 w4 ho hbel _ _; obtain ⟨Aq, cq, rfl⟩ := Kd.S_slice ho; obtain ⟨N0, hN0⟩ : ∃ N, N = wr.heap.size := ⟨_, rfl⟩; have HSQ := Aside0.mk (Kd.S_mono (Kd.S_lower (Kd.S_bound ho) HB.out.size) (ok' := fun q => N0 ≤ q) (fun q hq => by have := hq.2.1; omega)); have HS0 := Aside0.mk (Kd.S_below (Kd.S_mono (Kd.S_bound HS0.out) (ok' := fun q => (P q ∨ (Q q ∧ f q < ps.length ∧ some q ≠ (.slice A1 ps.length c1 : Value).ownBlock)) ∧ q < N0) (fun q hq => ⟨hq.1, by have := hq.2.2.1; omega⟩)) hbel); have BG := Aside0.mk (blk_below BG.out hbel); have HB := Aside0.mk (below_step HB.out hbel); clear ho hbel hN0) | ((with_reducible refine gate_ (.store 42 (.tmp 51) (.tmp 49)) rfl ?_); refine store_blk rfl rfl 42 (.tmp 51) (.tmp 49) rfl (off := 1) (u := .slice Aq ([] : List S185).length cq) #[.slice A0 safe.length c0, .slice Aq ([] : List S185).length cq] rfl rfl BG.out [.slice Aq ([] : List S185).length cq] rfl (by kernel_rfl) (Nat.le_of_ble_eq_true rfl) rfl rfl ?_; intro w8 hblk hgrw; have HS0 := Aside0.mk (S_off HS0.out BG.out (by decide) hgrw); have HSQ := Aside0.mk (S_off HSQ.out BG.out (by decide) hgrw); have HB := Aside0.mk (HB.out.grown hgrw HB.out.size (by intro q hq; cases hq; exact HG.out)); have BG := Aside0.mk hblk; clear hblk hgrw))
        have hsl2 : (syncL safe ps).length = safe.length := syncL_length _ _
        go_ret
        exact ⟨rfl, ⟨A0, c0, Aq, cq, fun q => (P q ∨ (Q q ∧ f q < ps.length ∧ some q ≠ (.slice A1 ps.length c1 : Value).ownBlock)) ∧ q < N0, fun q => N0 ≤ q, by rw [hsl2]; exact BG.out, ⟨fun q h1 h2 => by have := h1.2; omega, by rw [hsl2]; exact HS0.out, HSQ.out⟩, HG.out⟩, HB.out⟩
      | succ gk =>
        have p0 : 0 ≤ x := HXK.out.1
        have q0 : x < (ps.length : Int) := by have := HXK.out; omega
        have c4b0 : decide (x < (ps.length : Int)) = true := decide_eq_true q0
        have c4b1 : decide (0 ≤ x) = true := decide_eq_true p0
        obtain ⟨gq, cq, eq, eqr⟩ := Kd.R_form HT.out (by rw [List.length_zipIdx]; omega)
        injection eq with eq1 eq2 eq3
        clear eq2 eq3 eqr
        obtain ⟨ad, had⟩ : ∃ ad : Addr, A1 = some ad := ⟨_, eq1⟩
        subst had
        obtain ⟨c, hcl, hM, hcc⟩ := Kd.R_getA HT.out (z185, 0) x p0 (by omega)
        have hze : ps.zipIdx.getD x.toNat (z185, 0) = (rd_T185 ps x, x.toNat) := by
          have hq : x.toNat < ps.length := by omega
          simp [rd_T185, List.getD_eq_getElem?_getD, List.getElem?_zipIdx, List.getElem?_eq_getElem hq]
        rw [hze] at hM
        obtain ⟨ve, hce, hE⟩ := k185_openM hM
        obtain ⟨Ae, ce, rfl⟩ := Kd.R_slice hE
        have hx0 : wr.cell? (ad.add (x.toNat * 2)) = some (.int .i64 (rd_T185 ps x).f0) := hcc 0 _ (by rw [hce]; rfl)
        have hx1 : wr.cell? ⟨(ad.add (x.toNat * 2)).block, (ad.add (x.toNat * 2)).off + 1, none⟩ = some (.slice Ae (rd_T185 ps x).f1.length ce) := by
          have h1 := hcc 1 _ (by rw [hce]; rfl)
          obtain ⟨gz, rfl⟩ := Kd.R_head HT.out
          have e2 : ((⟨gz, 0, none⟩ : Addr).add (x.toNat * (Kd.tag f k185).sz + 1)) = ⟨((⟨gz, 0, none⟩ : Addr).add (x.toNat * 2)).block, ((⟨gz, 0, none⟩ : Addr).add (x.toNat * 2)).off + 1, none⟩ := by
            rw [add_at, add_at]
            rfl
          rw [← e2]
          exact h1
        have HE := Aside0.mk (Kd.R_tight rfl hE)
        have HEO : Aside0 (∀ q, some q = (.slice Ae (rd_T185 ps x).f1.length ce : Value).ownBlock → (Q q ∧ some q ≠ (.slice (some ad) ps.length c1 : Value).ownBlock) ∧ f q = x.toNat) := ⟨fun q hq => hE.1 q hq.symm⟩
        have hpr := HRG.out _ (getD_mem (z := z185) p0 q0)
        have hsl2 : (syncL safe (ps.take x.toNat)).length = safe.length := syncL_length _ _
        obtain ⟨gs, cs, es, esr⟩ := Kd.S_form HS.out (by rw [hsl2]; have := hpr; omega)
        injection es with es1 es2 es3
        clear es2 es3 esr
        subst es1
        have HP0 := Aside0.mk p0
        have HQ0 := Aside0.mk q0
        have r0 : 0 ≤ (rd_T185 ps x).f0 := hpr.1
        have r1 : (rd_T185 ps x).f0 < (safe.length : Int) := hpr.2
        have r2 : decide ((rd_T185 ps x).f0 < (safe.length : Int)) = true := decide_eq_true r1
        have r3 : decide (0 ≤ (rd_T185 ps x).f0) = true := decide_eq_true r0
        have HR0 := Aside0.mk r0
        have HR1 := Aside0.mk r1
        clear hcl hM hcc hze hce hE hpr hsl2 eq1
        replace r0 := eq_true r0
        replace r1 := eq_true r1
        replace p0 := eq_true p0
        replace q0 := eq_true q0
        have cg0 : wr.cell? ⟨g, 0, none⟩ = some (.slice (some ⟨gs, 0, none⟩) safe.length c0) := (blk_cell BG.out 0).trans rfl
        have cg1 : wr.cell? ⟨g, 1, none⟩ = some (.slice (some ad) ps.length c1) := (blk_cell BG.out 1).trans rfl
        go_wp2_with fail
        refine start_ (n := 22) (S := fun w' => w'.cell? ⟨g, 0, none⟩ = some (.slice (some ⟨gs, 0, none⟩) safe.length c0) ∧ w'.cell? ⟨g, 1, none⟩ = some (.slice (some ad) ps.length c1) ∧ w'.cell? (ad.add (x.toNat * 2)) = some (.int .i64 (rd_T185 ps x).f0) ∧ w'.cell? ⟨(ad.add (x.toNat * 2)).block, (ad.add (x.toNat * 2)).off + 1, none⟩ = some (.slice Ae (rd_T185 ps x).f1.length ce)) (ds := [21]) #[false, false, false, false, false, false, false, false, false, false, false, false, false, false, false, false, false, false, false, false, false, false] (by kernel_rfl) rfl rfl (⟨(blk_cell BG.out 0).trans rfl, (blk_cell BG.out 1).trans rfl, hx0, hx1⟩) (fun hHeld => ?_); refine with_tabW spec_l1Do.tab7 spec_l1Do.bits7 (fun HT_ HW_ => ?_)
        have BG := Aside0.mk (blk_drew BG.out)
        have HB := Aside0.mk (below_drew1 HB.out)
        have HT := Aside0.mk (Kd.R_drew HT.out)
        have HS := Aside0.mk (Kd.S_drew HS.out)
        have HE := Aside0.mk (Kd.R_drew HE.out)
        refine pure_ (i := 0) (N := some 27) (v := ?_) (a' := ?_) #[true, false, false, false, false, false, false, false, false, false, false, false, false, false, false, false, false, false, false, false, false, false] rfl rfl (any_of HT_.out (by kernel_rfl)) (fun _ _ _ h => h) (Or.inl ⟨by rfl, ?_⟩) ?_ ?_
        rotate_left
        · intro w'
          go_simp
          with_reducible rfl
        rotate_left
        · simp only [Act.put, List.setIfInBounds_toArray, List.set_cons_zero, List.set_cons_succ, i64_w, i32_w]
          rfl
        refine pure_ (i := 1) (N := some 28) (v := ?_) (a' := ?_) #[true, true, false, false, false, false, false, false, false, false, false, false, false, false, false, false, false, false, false, false, false, false] rfl rfl (any_of HT_.out (by kernel_rfl)) (fun _ _ _ h => h) (Or.inl ⟨by rfl, ?_⟩) ?_ ?_
        rotate_left
        · intro w'
          go_simp
          with_reducible rfl
        rotate_left
        · simp only [Act.put, List.setIfInBounds_toArray, List.set_cons_zero, List.set_cons_succ, i64_w, i32_w]
          rfl
        refine pure_ (i := 2) (N := some 29) (v := ?_) (a' := ?_) #[true, true, true, false, false, false, false, false, false, false, false, false, false, false, false, false, false, false, false, false, false, false] rfl rfl (any_of HT_.out (by kernel_rfl)) (fun _ _ _ h => h) (Or.inl ⟨by rfl, ?_⟩) ?_ ?_
        rotate_left
        · intro w'
          go_simp
          with_reducible rfl
        rotate_left
        · simp only [Act.put, List.setIfInBounds_toArray, List.set_cons_zero, List.set_cons_succ, i64_w, i32_w]
          rfl
        refine pure_ (i := 4) (N := some 31) (v := ?_) (a' := ?_) #[true, true, true, false, true, false, false, false, false, false, false, false, false, false, false, false, false, false, false, false, false, false] rfl rfl (any_of HT_.out (by kernel_rfl)) (fun _ _ _ h => h) (Or.inl ⟨by rfl, ?_⟩) ?_ ?_
        rotate_left
        · intro w'
          go_simp
          with_reducible rfl
        rotate_left
        · simp only [Act.put, List.setIfInBounds_toArray, List.set_cons_zero, List.set_cons_succ, i64_w, i32_w]
          rfl
        refine pure_ (i := 5) (N := some 32) (v := ?_) (a' := ?_) #[true, true, true, false, true, true, false, false, false, false, false, false, false, false, false, false, false, false, false, false, false, false] rfl rfl (any_of HT_.out (by kernel_rfl)) (fun _ _ _ h => h) (Or.inl ⟨by rfl, ?_⟩) ?_ ?_
        rotate_left
        · intro w'
          go_simp
          with_reducible rfl
        rotate_left
        · simp only [Act.put, List.setIfInBounds_toArray, List.set_cons_zero, List.set_cons_succ, i64_w, i32_w]
          rfl
        refine pure_ (i := 6) (N := some 33) (v := ?_) (a' := ?_) #[true, true, true, false, true, true, true, false, false, false, false, false, false, false, false, false, false, false, false, false, false, false] rfl rfl (any_of HT_.out (by kernel_rfl)) (fun _ _ _ h => h) (Or.inl ⟨by rfl, ?_⟩) ?_ ?_
        rotate_left
        · intro w'
          go_simp
          with_reducible rfl
        rotate_left
        · simp only [Act.put, List.setIfInBounds_toArray, List.set_cons_zero, List.set_cons_succ, i64_w, i32_w]
          rfl
        refine pure_ (i := 8) (N := some 35) (v := ?_) (a' := ?_) #[true, true, true, false, true, true, true, false, true, false, false, false, false, false, false, false, false, false, false, false, false, false] rfl rfl (any_of HT_.out (by kernel_rfl)) (fun _ _ _ h => h) (Or.inl ⟨by rfl, ?_⟩) ?_ ?_
        rotate_left
        · intro w'
          go_simp
          with_reducible rfl
        rotate_left
        · simp only [Act.put, List.setIfInBounds_toArray, List.set_cons_zero, List.set_cons_succ, i64_w, i32_w]
          rfl
        refine pure_ (i := 12) (N := some 39) (v := ?_) (a' := ?_) #[true, true, true, false, true, true, true, false, true, false, false, false, true, false, false, false, false, false, false, false, false, false] rfl rfl (any_of HT_.out (by kernel_rfl)) (fun _ _ _ h => h) (Or.inl ⟨by rfl, ?_⟩) ?_ ?_
        rotate_left
        · intro w'
          go_simp
          with_reducible rfl
        rotate_left
        · simp only [Act.put, List.setIfInBounds_toArray, List.set_cons_zero, List.set_cons_succ, i64_w, i32_w]
          rfl
        refine pure_ (i := 13) (N := some 40) (v := ?_) (a' := ?_) #[true, true, true, false, true, true, true, false, true, false, false, false, true, true, false, false, false, false, false, false, false, false] rfl rfl (any_of HT_.out (by kernel_rfl)) (fun _ _ _ h => h) (Or.inl ⟨by rfl, ?_⟩) ?_ ?_
        rotate_left
        · intro w'
          go_simp
          with_reducible rfl
        rotate_left
        · simp only [Act.put, List.setIfInBounds_toArray, List.set_cons_zero, List.set_cons_succ, i64_w, i32_w]
          rfl
        refine pure_ (i := 14) (N := some 41) (v := ?_) (a' := ?_) #[true, true, true, false, true, true, true, false, true, false, false, false, true, true, true, false, false, false, false, false, false, false] rfl rfl (any_of HT_.out (by kernel_rfl)) (fun _ _ _ h => h) (Or.inl ⟨by rfl, ?_⟩) ?_ ?_
        rotate_left
        · intro w'
          go_simp
          with_reducible rfl
        rotate_left
        · simp only [Act.put, List.setIfInBounds_toArray, List.set_cons_zero, List.set_cons_succ, i64_w, i32_w]
          rfl
        refine pure_ (i := 16) (N := some 43) (v := ?_) (a' := ?_) #[true, true, true, false, true, true, true, false, true, false, false, false, true, true, true, false, true, false, false, false, false, false] rfl rfl (any_of HT_.out (by kernel_rfl)) (fun _ _ _ h => h) (Or.inl ⟨by rfl, ?_⟩) ?_ ?_
        rotate_left
        · intro w'
          go_simp
          with_reducible rfl
        rotate_left
        · simp only [Act.put, List.setIfInBounds_toArray, List.set_cons_zero, List.set_cons_succ, i64_w, i32_w]
          rfl
        refine take_ (i := 3) (N := some 30) (v := ?_) (a' := ?_) #[true, true, true, true, true, true, true, false, true, false, false, false, true, true, true, false, true, false, false, false, false, false] rfl rfl (take_ofW HT_.out HW_.out (by kernel_rfl)) (fun _ _ _ h => h) (Or.inl ⟨by rfl, ?_⟩) hHeld ?_ ?_
        rotate_left
        · intro w' s0
          obtain ⟨s0, s1, s2, s3⟩ := s0
          go_simp
          with_reducible rfl
        rotate_left
        · simp only [Act.put, List.setIfInBounds_toArray, List.set_cons_zero, List.set_cons_succ, i64_w, i32_w]
          rfl
        refine take_ (i := 7) (N := some 34) (v := ?_) (a' := ?_) #[true, true, true, true, true, true, true, true, true, false, false, false, true, true, true, false, true, false, false, false, false, false] rfl rfl (take_ofW HT_.out HW_.out (by kernel_rfl)) (fun _ _ _ h => h) (Or.inl ⟨by rfl, ?_⟩) hHeld ?_ ?_
        rotate_left
        · intro w' s0
          obtain ⟨s0, s1, s2, s3⟩ := s0
          go_simp
          with_reducible rfl
        rotate_left
        · simp only [Act.put, List.setIfInBounds_toArray, List.set_cons_zero, List.set_cons_succ, i64_w, i32_w]
          rfl
        refine take_ (i := 15) (N := some 42) (v := ?_) (a' := ?_) #[true, true, true, true, true, true, true, true, true, false, false, false, true, true, true, true, true, false, false, false, false, false] rfl rfl (take_ofW HT_.out HW_.out (by kernel_rfl)) (fun _ _ _ h => h) (Or.inl ⟨by rfl, ?_⟩) hHeld ?_ ?_
        rotate_left
        · intro w' s0
          obtain ⟨s0, s1, s2, s3⟩ := s0
          go_simp
          with_reducible rfl
        rotate_left
        · simp only [Act.put, List.setIfInBounds_toArray, List.set_cons_zero, List.set_cons_succ, i64_w, i32_w]
          rfl
        refine pure_ (i := 9) (N := some 36) (v := ?_) (a' := ?_) #[true, true, true, true, true, true, true, true, true, true, false, false, true, true, true, true, true, false, false, false, false, false] rfl rfl (any_of HT_.out (by kernel_rfl)) (fun _ _ _ h => h) (Or.inl ⟨by rfl, ?_⟩) ?_ ?_
        rotate_left
        · intro w'
          go_simp
          with_reducible rfl
        rotate_left
        · simp only [Act.put, List.setIfInBounds_toArray, List.set_cons_zero, List.set_cons_succ, i64_w, i32_w]
          rfl
        refine pure_ (i := 17) (N := some 44) (v := ?_) (a' := ?_) #[true, true, true, true, true, true, true, true, true, true, false, false, true, true, true, true, true, true, false, false, false, false] rfl rfl (any_of HT_.out (by kernel_rfl)) (fun _ _ _ h => h) (Or.inl ⟨by rfl, ?_⟩) ?_ ?_
        rotate_left
        · intro w'
          go_simp
          with_reducible rfl
        rotate_left
        · simp only [Act.put, List.setIfInBounds_toArray, List.set_cons_zero, List.set_cons_succ, i64_w, i32_w]
          rfl
        refine pure_ (i := 10) (N := some 37) (v := ?_) (a' := ?_) #[true, true, true, true, true, true, true, true, true, true, true, false, true, true, true, true, true, true, false, false, false, false] rfl rfl (any_of HT_.out (by kernel_rfl)) (fun _ _ _ h => h) (Or.inl ⟨by rfl, ?_⟩) ?_ ?_
        rotate_left
        · intro w'
          go_simp
          with_reducible rfl
        rotate_left
        · simp only [Act.put, List.setIfInBounds_toArray, List.set_cons_zero, List.set_cons_succ, i64_w, i32_w]
          rfl
        refine pure_ (i := 18) (N := some 45) (v := ?_) (a' := ?_) #[true, true, true, true, true, true, true, true, true, true, true, false, true, true, true, true, true, true, true, false, false, false] rfl rfl (any_of HT_.out (by kernel_rfl)) (fun _ _ _ h => h) (Or.inl ⟨by rfl, ?_⟩) ?_ ?_
        rotate_left
        · intro w'
          go_simp
          with_reducible rfl
        rotate_left
        · simp only [Act.put, List.setIfInBounds_toArray, List.set_cons_zero, List.set_cons_succ, i64_w, i32_w]
          rfl
        refine take_ (i := 11) (N := some 38) (v := ?_) (a' := ?_) #[true, true, true, true, true, true, true, true, true, true, true, true, true, true, true, true, true, true, true, false, false, false] rfl rfl (take_ofW HT_.out HW_.out (by kernel_rfl)) (fun _ _ _ h => h) (Or.inl ⟨by rfl, ?_⟩) hHeld ?_ ?_
        rotate_left
        · intro w' s0
          obtain ⟨s0, s1, s2, s3⟩ := s0
          go_simp
          with_reducible rfl
        rotate_left
        · simp only [Act.put, List.setIfInBounds_toArray, List.set_cons_zero, List.set_cons_succ, i64_w, i32_w]
          rfl
        refine take_ (i := 19) (N := some 46) (v := ?_) (a' := ?_) #[true, true, true, true, true, true, true, true, true, true, true, true, true, true, true, true, true, true, true, true, false, false] rfl rfl (take_ofW HT_.out HW_.out (by kernel_rfl)) (fun _ _ _ h => h) (Or.inl ⟨by rfl, ?_⟩) hHeld ?_ ?_
        rotate_left
        · intro w' s0
          obtain ⟨s0, s1, s2, s3⟩ := s0
          go_simp
          with_reducible rfl
        rotate_left
        · simp only [Act.put, List.setIfInBounds_toArray, List.set_cons_zero, List.set_cons_succ, i64_w, i32_w]
          rfl
        refine pure_ (i := 20) (N := some 47) (v := ?_) (a' := ?_) #[true, true, true, true, true, true, true, true, true, true, true, true, true, true, true, true, true, true, true, true, true, false] rfl rfl (any_of HT_.out (by kernel_rfl)) (fun _ _ _ h => h) (Or.inl ⟨by rfl, ?_⟩) ?_ ?_
        rotate_left
        · intro w'
          go_simp
          with_reducible rfl
        rotate_left
        · simp only [Act.put, List.setIfInBounds_toArray, List.set_cons_zero, List.set_cons_succ, i64_w, i32_w]
          rfl
        refine last_ (i := 21) (N := none) #[true, true, true, true, true, true, true, true, true, true, true, true, true, true, true, true, true, true, true, true, true, true] rfl rfl (one_of HT_.out (by kernel_rfl)) (by decide) (fun K hK => ?_)
        refine S_put_step (base := w0.heap.size) (g := gs) (n := safe.length) (cap := c0) (by rfl) rfl 22 (.tmp 47) (.tmp 46) rfl (rd_T185 ps x).f0 (syncL safe (ps.take x.toNat)) (rd_T185 ps x).f1 (.slice Ae (rd_T185 ps x).f1.length ce) _ (fun q => some q = (.slice Ae (rd_T185 ps x).f1.length ce : Value).ownBlock) (by first | rfl | simp [Act.eval, Addr.add, *]) rfl rfl (by kernel_rfl) rfl HS.out HR0.out (by have := HR1.out; omega) HE.out (fun q hq h => by have h2 := HEO.out q hq; rcases h with h | h; exact HDJ.out q h h2.1.1; have := h.2.1; omega) ?_
        intro w7 hs hgrw
        obtain ⟨cells, hcs⟩ := Kd.S_typed HS.out gs rfl
        have HT := Aside0.mk (R_off HT.out hcs (show ∀ q, q ∈ [185, 5] → q ≠ 22 by decide) hgrw)
        have BG := Aside0.mk (blk_off BG.out hcs (by decide) hgrw)
        have HB := Aside0.mk (HB.out.grown hgrw HB.out.size (by intro q hq; cases hq; exact Kd.S_base HS.out gs rfl))
        have HS := Aside0.mk (Kd.S_mono hs (ok' := fun q => P q ∨ (Q q ∧ f q < (x + 1).toNat ∧ some q ≠ (.slice (some ad) ps.length c1 : Value).ownBlock)) (fun q hq => by
          have := HP0.out
          rcases hq with (hq | hq) | hq
          · exact .inl hq
          · exact .inr ⟨hq.1, by have := hq.2.1; omega, hq.2.2⟩
          · have h2 := HEO.out q hq
            exact .inr ⟨h2.1.1, by omega, h2.1.2⟩))
        clear hs hgrw hcs hHeld HE
        refine hK.out _ _ ?_
        clear hK K
        refine done_ (done_of HT_.out (by kernel_rfl)) ?_
        try clear hHeld
        clear hx0 hx1 cg0 cg1
        go_wp2_with fail
        go_roundg gk
        case measure => omega
        case rel =>
          have hw1 : wrap64 (x + 1) = x + 1 := by have := HP0.out; have := HQ0.out; have := HPS.out; unfold wrap64; omega
          exact ⟨x + 1, by first | rfl | (rw [hw1]), ⟨by have := HXK.out; omega⟩, ⟨by rw [take_snoc (z := z185) HP0.out HQ0.out, syncL_snoc]; exact HS.out⟩, HT, BG, HB⟩
  have e2 : (kind == 2) = false := beq_eq_false_iff_ne.mpr k2
  by_cases k1 : kind = 1
  case neg =>
    rw [if_neg k1, if_neg k2] at hdo
    have e1 : (kind != 1) = true := bne_iff_ne.mpr k1
    have e3 : (kind == 1) = false := beq_eq_false_iff_ne.mpr k1
    clear k1 k2
    obtain ⟨⟨rfl, rfl⟩, rfl⟩ : (safe = sf ∧ ps = pf) ∧ false = rf := by simpa using hdo
    clear hdo
    go_wp2_with (first | ((with_reducible refine gate_dst (N := 3) rfl ?_); refine box_event ?hg (N := 3) ?hd (cs := #[.int .i64 kind, .int .i64 at_, .slice Ad data.length cd]) (t := 63) ?hr ?_; (case hd => rfl); (case hg => rfl); (case hr => first | (go_simp; done) | (go_simp; rfl)); intro g3 hgr w1 hbox hbel; have BP := Aside0.mk hbox; have BG := Aside0.mk (blk_below BG.out hbel); have HD := Aside0.mk (IsDisk_below HD.out hbel); have HB := Aside0.mk (below_step HB.out hbel); have cg0 : w1.cell? ⟨g, 0, none⟩ = some (.slice A0 safe.length c0) := (blk_cell BG.out 0).trans rfl; have cg1 : w1.cell? ⟨g, 1, none⟩ = some (.slice A1 ps.length c1) := (blk_cell BG.out 1).trans rfl; have cp0 : w1.cell? ⟨g3, 0, none⟩ = some (.int .i64 kind) := (blk_cell BP.out 0).trans rfl; have cp1 : w1.cell? ⟨g3, 1, none⟩ = some (.int .i64 at_) := (blk_cell BP.out 1).trans rfl; have cp2 : w1.cell? ⟨g3, 2, none⟩ = some (.slice Ad data.length cd) := (blk_cell BP.out 2).trans rfl; clear hbox hbel hgr))
    go_quiet (fail)
    go_wp2_with fail
    go_ret
    exact ⟨rfl, ⟨A0, c0, A1, c1, P, Q, blk_drewN BG.out _, ⟨HD.out.1, Kd.S_drewN HD.out.2.1 _, Kd.S_drewN HD.out.2.2 _⟩, HG.out⟩, pw_below_drewN HB.out _⟩
  rw [if_pos k1] at hdo
  have e1 : (kind != 1) = false := bne_eq_false_iff_eq.mpr k1
  have e3 : (kind == 1) = true := beq_iff_eq.mpr k1
  clear k1 k2
  by_cases h0 : at_ < 0
  · rw [if_pos h0] at hdo
    have d0 : decide (at_ < 0) = true := decide_eq_true h0
    clear h0
    obtain ⟨⟨rfl, rfl⟩, rfl⟩ : (safe = sf ∧ ps = pf) ∧ false = rf := by simpa using hdo
    clear hdo
    go_wp2_with (first | ((with_reducible refine gate_dst (N := 3) rfl ?_); refine box_event ?hg (N := 3) ?hd (cs := #[.int .i64 kind, .int .i64 at_, .slice Ad data.length cd]) (t := 63) ?hr ?_; (case hd => rfl); (case hg => rfl); (case hr => first | (go_simp; done) | (go_simp; rfl)); intro g3 hgr w1 hbox hbel; have BP := Aside0.mk hbox; have BG := Aside0.mk (blk_below BG.out hbel); have HD := Aside0.mk (IsDisk_below HD.out hbel); have HB := Aside0.mk (below_step HB.out hbel); have cg0 : w1.cell? ⟨g, 0, none⟩ = some (.slice A0 safe.length c0) := (blk_cell BG.out 0).trans rfl; have cg1 : w1.cell? ⟨g, 1, none⟩ = some (.slice A1 ps.length c1) := (blk_cell BG.out 1).trans rfl; have cp0 : w1.cell? ⟨g3, 0, none⟩ = some (.int .i64 kind) := (blk_cell BP.out 0).trans rfl; have cp1 : w1.cell? ⟨g3, 1, none⟩ = some (.int .i64 at_) := (blk_cell BP.out 1).trans rfl; have cp2 : w1.cell? ⟨g3, 2, none⟩ = some (.slice Ad data.length cd) := (blk_cell BP.out 2).trans rfl; clear hbox hbel hgr))
    go_quiet (fail)
    go_wp2_with fail
    go_ret
    exact ⟨rfl, ⟨A0, c0, A1, c1, P, Q, blk_drewN BG.out _, ⟨HD.out.1, Kd.S_drewN HD.out.2.1 _, Kd.S_drewN HD.out.2.2 _⟩, HG.out⟩, pw_below_drewN HB.out _⟩
  rw [if_neg h0] at hdo
  have d0 : decide (at_ < 0) = false := decide_eq_false h0
  by_cases h1 : (safe.length : Int) ≤ at_
  · rw [if_pos h1] at hdo
    have d1 : decide ((safe.length : Int) ≤ at_) = true := decide_eq_true h1
    clear h0 h1
    obtain ⟨⟨rfl, rfl⟩, rfl⟩ : (safe = sf ∧ ps = pf) ∧ false = rf := by simpa using hdo
    clear hdo
    go_wp2_with (first | ((with_reducible refine gate_dst (N := 3) rfl ?_); refine box_event ?hg (N := 3) ?hd (cs := #[.int .i64 kind, .int .i64 at_, .slice Ad data.length cd]) (t := 63) ?hr ?_; (case hd => rfl); (case hg => rfl); (case hr => first | (go_simp; done) | (go_simp; rfl)); intro g3 hgr w1 hbox hbel; have BP := Aside0.mk hbox; have BG := Aside0.mk (blk_below BG.out hbel); have HD := Aside0.mk (IsDisk_below HD.out hbel); have HB := Aside0.mk (below_step HB.out hbel); have cg0 : w1.cell? ⟨g, 0, none⟩ = some (.slice A0 safe.length c0) := (blk_cell BG.out 0).trans rfl; have cg1 : w1.cell? ⟨g, 1, none⟩ = some (.slice A1 ps.length c1) := (blk_cell BG.out 1).trans rfl; have cp0 : w1.cell? ⟨g3, 0, none⟩ = some (.int .i64 kind) := (blk_cell BP.out 0).trans rfl; have cp1 : w1.cell? ⟨g3, 1, none⟩ = some (.int .i64 at_) := (blk_cell BP.out 1).trans rfl; have cp2 : w1.cell? ⟨g3, 2, none⟩ = some (.slice Ad data.length cd) := (blk_cell BP.out 2).trans rfl; clear hbox hbel hgr))
    go_quiet (fail)
    go_wp2_with fail
    go_ret
    exact ⟨rfl, ⟨A0, c0, A1, c1, P, Q, blk_drewN BG.out _, ⟨HD.out.1, Kd.S_drewN HD.out.2.1 _, Kd.S_drewN HD.out.2.2 _⟩, HG.out⟩, pw_below_drewN HB.out _⟩
  rw [if_neg h1] at hdo
  have d1 : decide ((safe.length : Int) ≤ at_) = false := decide_eq_false h1
  by_cases h2 : data.length = 64
  case neg =>
    rw [if_neg h2] at hdo
    have d2 : ((data.length : Int) != 64) = true := bne_iff_ne.mpr (by omega)
    have d3 : ((data.length : Int) == 64) = false := beq_eq_false_iff_ne.mpr (by omega)
    clear h0 h1 h2
    obtain ⟨⟨rfl, rfl⟩, rfl⟩ : (safe = sf ∧ ps = pf) ∧ false = rf := by simpa using hdo
    clear hdo
    go_wp2_with (first | ((with_reducible refine gate_dst (N := 3) rfl ?_); refine box_event ?hg (N := 3) ?hd (cs := #[.int .i64 kind, .int .i64 at_, .slice Ad data.length cd]) (t := 63) ?hr ?_; (case hd => rfl); (case hg => rfl); (case hr => first | (go_simp; done) | (go_simp; rfl)); intro g3 hgr w1 hbox hbel; have BP := Aside0.mk hbox; have BG := Aside0.mk (blk_below BG.out hbel); have HD := Aside0.mk (IsDisk_below HD.out hbel); have HB := Aside0.mk (below_step HB.out hbel); have cg0 : w1.cell? ⟨g, 0, none⟩ = some (.slice A0 safe.length c0) := (blk_cell BG.out 0).trans rfl; have cg1 : w1.cell? ⟨g, 1, none⟩ = some (.slice A1 ps.length c1) := (blk_cell BG.out 1).trans rfl; have cp0 : w1.cell? ⟨g3, 0, none⟩ = some (.int .i64 kind) := (blk_cell BP.out 0).trans rfl; have cp1 : w1.cell? ⟨g3, 1, none⟩ = some (.int .i64 at_) := (blk_cell BP.out 1).trans rfl; have cp2 : w1.cell? ⟨g3, 2, none⟩ = some (.slice Ad data.length cd) := (blk_cell BP.out 2).trans rfl; clear hbox hbel hgr))
    go_quiet (fail)
    go_wp2_with fail
    go_ret
    exact ⟨rfl, ⟨A0, c0, A1, c1, P, Q, blk_drewN BG.out _, ⟨HD.out.1, Kd.S_drewN HD.out.2.1 _, Kd.S_drewN HD.out.2.2 _⟩, HG.out⟩, pw_below_drewN HB.out _⟩
  rw [if_pos h2] at hdo
  have d2 : ((data.length : Int) != 64) = false := bne_eq_false_iff_eq.mpr (by omega)
  have d3 : ((data.length : Int) == 64) = true := beq_iff_eq.mpr (by omega)
  by_cases h3 : 5000 ≤ ps.length
  · rw [if_pos h3] at hdo
    have d4 : decide ((5000 : Int) ≤ (ps.length : Int)) = true := decide_eq_true (by omega)
    clear h0 h1 h2 h3
    obtain ⟨⟨rfl, rfl⟩, rfl⟩ : (safe = sf ∧ ps = pf) ∧ false = rf := by simpa using hdo
    clear hdo
    go_wp2_with (first | ((with_reducible refine gate_dst (N := 3) rfl ?_); refine box_event ?hg (N := 3) ?hd (cs := #[.int .i64 kind, .int .i64 at_, .slice Ad data.length cd]) (t := 63) ?hr ?_; (case hd => rfl); (case hg => rfl); (case hr => first | (go_simp; done) | (go_simp; rfl)); intro g3 hgr w1 hbox hbel; have BP := Aside0.mk hbox; have BG := Aside0.mk (blk_below BG.out hbel); have HD := Aside0.mk (IsDisk_below HD.out hbel); have HB := Aside0.mk (below_step HB.out hbel); have cg0 : w1.cell? ⟨g, 0, none⟩ = some (.slice A0 safe.length c0) := (blk_cell BG.out 0).trans rfl; have cg1 : w1.cell? ⟨g, 1, none⟩ = some (.slice A1 ps.length c1) := (blk_cell BG.out 1).trans rfl; have cp0 : w1.cell? ⟨g3, 0, none⟩ = some (.int .i64 kind) := (blk_cell BP.out 0).trans rfl; have cp1 : w1.cell? ⟨g3, 1, none⟩ = some (.int .i64 at_) := (blk_cell BP.out 1).trans rfl; have cp2 : w1.cell? ⟨g3, 2, none⟩ = some (.slice Ad data.length cd) := (blk_cell BP.out 2).trans rfl; clear hbox hbel hgr))
    go_quiet (fail)
    go_wp2_with fail
    go_ret
    exact ⟨rfl, ⟨A0, c0, A1, c1, P, Q, blk_drewN BG.out _, ⟨HD.out.1, Kd.S_drewN HD.out.2.1 _, Kd.S_drewN HD.out.2.2 _⟩, HG.out⟩, pw_below_drewN HB.out _⟩
  rw [if_neg h3] at hdo
  have d4 : decide ((5000 : Int) ≤ (ps.length : Int)) = false := decide_eq_false (by omega)
  have HDL := Aside0.mk h2
  clear h0 h1 h2 h3
  obtain ⟨⟨rfl, rfl⟩, rfl⟩ : (safe = sf ∧ ps ++ [⟨at_, data⟩] = pf) ∧ true = rf := by simpa using hdo
  clear hdo
  go_wp2_with (first | ((with_reducible refine gate_dst (N := 3) rfl ?_); refine box_event ?hg (N := 3) ?hd (cs := #[.int .i64 kind, .int .i64 at_, .slice Ad data.length cd]) (t := 63) ?hr ?_; (case hd => rfl); (case hg => rfl); (case hr => first | (go_simp; done) | (go_simp; rfl)); intro g3 hgr w1 hbox hbel; have BP := Aside0.mk hbox; have BG := Aside0.mk (blk_below BG.out hbel); have HD := Aside0.mk (IsDisk_below HD.out hbel); have HB := Aside0.mk (below_step HB.out hbel); have cg0 : w1.cell? ⟨g, 0, none⟩ = some (.slice A0 safe.length c0) := (blk_cell BG.out 0).trans rfl; have cg1 : w1.cell? ⟨g, 1, none⟩ = some (.slice A1 ps.length c1) := (blk_cell BG.out 1).trans rfl; have cp0 : w1.cell? ⟨g3, 0, none⟩ = some (.int .i64 kind) := (blk_cell BP.out 0).trans rfl; have cp1 : w1.cell? ⟨g3, 1, none⟩ = some (.int .i64 at_) := (blk_cell BP.out 1).trans rfl; have cp2 : w1.cell? ⟨g3, 2, none⟩ = some (.slice Ad data.length cd) := (blk_cell BP.out 2).trans rfl; clear hbox hbel hgr))
  go_quiet (fail)
  go_wp2_with fail
  have BG := Aside0.mk (blk_drewN BG.out nq)
  have BP := Aside0.mk (blk_drewN BP.out nq)
  have HD := Aside0.mk (show IsDisk (w1.drewN nq) w0.heap.size P Q (.slice A0 safe.length c0) (.slice A1 ps.length c1) safe ps from ⟨HD.out.1, Kd.S_drewN HD.out.2.1 _, Kd.S_drewN HD.out.2.2 _⟩)
  have HB := Aside0.mk (pw_below_drewN HB.out nq)
  clear cg0 cg1 cp0 cp1 cp2 d0 d1 d2 d3 d4
  generalize w1.drewN nq = w5 at BG BP HD HB ⊢
  obtain ⟨N0, hN0⟩ : ∃ N, N = w5.heap.size := ⟨_, rfl⟩
  have HN0 : Aside0 (N0 ≤ w5.heap.size) := ⟨Nat.le_of_eq hN0⟩
  have HDJ := Aside0.mk HD.out.1
  have HS0 := Aside0.mk (Kd.S_mono (Kd.S_bound HD.out.2.1) (ok' := fun q => P q ∧ q < N0) (fun q hq => ⟨hq.1, by have := hq.2.2.1; omega⟩))
  have HS1 := Aside0.mk (Kd.S_mono HD.out.2.2 (ok' := fun q => Q q ∨ N0 ≤ q) (fun q hq => .inl hq))
  clear hN0 HD
  refine start_ (n := 16) (S := fun w' => w'.cell? ⟨g, 1, none⟩ = some (.slice A1 ps.length c1) ∧ w'.cell? ⟨g3, 1, none⟩ = some (.int .i64 at_) ∧ w'.cell? ⟨g3, 2, none⟩ = some (.slice Ad data.length cd)) (ds := [15]) #[false, false, false, false, false, false, false, false, false, false, false, false, false, false, false, false] (by kernel_rfl) rfl rfl (⟨(blk_cell BG.out 1).trans rfl, (blk_cell BP.out 1).trans rfl, (blk_cell BP.out 2).trans rfl⟩) (fun hHeld => ?_); refine with_tabW spec_l1Do.tab12 spec_l1Do.bits12 (fun HT_ HW_ => ?_)
  have BG := Aside0.mk (blk_drew BG.out)
  have BP := Aside0.mk (blk_drew BP.out)
  have HB := Aside0.mk (below_drew1 HB.out)
  have HS0 := Aside0.mk (Kd.S_drew HS0.out)
  have HS1 := Aside0.mk (Kd.S_drew HS1.out)
  refine pure_ (i := 0) (N := some 84) (v := ?_) (a' := ?_) #[true, false, false, false, false, false, false, false, false, false, false, false, false, false, false, false] rfl rfl (any_of HT_.out (by kernel_rfl)) (fun _ _ _ h => h) (Or.inl ⟨by rfl, ?_⟩) ?_ ?_
  rotate_left
  · intro w'
    go_simp
    with_reducible rfl
  rotate_left
  · simp only [Act.put, List.setIfInBounds_toArray, List.set_cons_zero, List.set_cons_succ, i64_w, i32_w]
    rfl
  refine pure_ (i := 1) (N := some 85) (v := ?_) (a' := ?_) #[true, true, false, false, false, false, false, false, false, false, false, false, false, false, false, false] rfl rfl (any_of HT_.out (by kernel_rfl)) (fun _ _ _ h => h) (Or.inl ⟨by rfl, ?_⟩) ?_ ?_
  rotate_left
  · intro w'
    go_simp
    with_reducible rfl
  rotate_left
  · simp only [Act.put, List.setIfInBounds_toArray, List.set_cons_zero, List.set_cons_succ, i64_w, i32_w]
    rfl
  refine pure_ (i := 2) (N := some 86) (v := ?_) (a' := ?_) #[true, true, true, false, false, false, false, false, false, false, false, false, false, false, false, false] rfl rfl (any_of HT_.out (by kernel_rfl)) (fun _ _ _ h => h) (Or.inl ⟨by rfl, ?_⟩) ?_ ?_
  rotate_left
  · intro w'
    go_simp
    with_reducible rfl
  rotate_left
  · simp only [Act.put, List.setIfInBounds_toArray, List.set_cons_zero, List.set_cons_succ, i64_w, i32_w]
    rfl
  refine pure_ (i := 3) (N := some 87) (v := ?_) (a' := ?_) #[true, true, true, true, false, false, false, false, false, false, false, false, false, false, false, false] rfl rfl (any_of HT_.out (by kernel_rfl)) (fun _ _ _ h => h) (Or.inl ⟨by rfl, ?_⟩) ?_ ?_
  rotate_left
  · intro w'
    go_simp
    with_reducible rfl
  rotate_left
  · simp only [Act.put, List.setIfInBounds_toArray, List.set_cons_zero, List.set_cons_succ, i64_w, i32_w]
    rfl
  refine pure_ (i := 5) (N := some 89) (v := ?_) (a' := ?_) #[true, true, true, true, false, true, false, false, false, false, false, false, false, false, false, false] rfl rfl (any_of HT_.out (by kernel_rfl)) (fun _ _ _ h => h) (Or.inl ⟨by rfl, ?_⟩) ?_ ?_
  rotate_left
  · intro w'
    go_simp
    with_reducible rfl
  rotate_left
  · simp only [Act.put, List.setIfInBounds_toArray, List.set_cons_zero, List.set_cons_succ, i64_w, i32_w]
    rfl
  refine pure_ (i := 7) (N := some 91) (v := ?_) (a' := ?_) #[true, true, true, true, false, true, false, true, false, false, false, false, false, false, false, false] rfl rfl (any_of HT_.out (by kernel_rfl)) (fun _ _ _ h => h) (Or.inl ⟨by rfl, ?_⟩) ?_ ?_
  rotate_left
  · intro w'
    go_simp
    with_reducible rfl
  rotate_left
  · simp only [Act.put, List.setIfInBounds_toArray, List.set_cons_zero, List.set_cons_succ, i64_w, i32_w]
    rfl
  refine take_ (i := 4) (N := some 88) (v := ?_) (a' := ?_) #[true, true, true, true, true, true, false, true, false, false, false, false, false, false, false, false] rfl rfl (take_ofW HT_.out HW_.out (by kernel_rfl)) (fun _ _ _ h => h) (Or.inl ⟨by rfl, ?_⟩) hHeld ?_ ?_
  rotate_left
  · intro w' s0
    obtain ⟨s0, s1, s2⟩ := s0
    go_simp
    with_reducible rfl
  rotate_left
  · simp only [Act.put, List.setIfInBounds_toArray, List.set_cons_zero, List.set_cons_succ, i64_w, i32_w]
    rfl
  refine take_ (i := 6) (N := some 90) (v := ?_) (a' := ?_) #[true, true, true, true, true, true, true, true, false, false, false, false, false, false, false, false] rfl rfl (take_ofW HT_.out HW_.out (by kernel_rfl)) (fun _ _ _ h => h) (Or.inl ⟨by rfl, ?_⟩) hHeld ?_ ?_
  rotate_left
  · intro w' s0
    obtain ⟨s0, s1, s2⟩ := s0
    go_simp
    with_reducible rfl
  rotate_left
  · simp only [Act.put, List.setIfInBounds_toArray, List.set_cons_zero, List.set_cons_succ, i64_w, i32_w]
    rfl
  refine take_ (i := 8) (N := some 92) (v := ?_) (a' := ?_) #[true, true, true, true, true, true, true, true, true, false, false, false, false, false, false, false] rfl rfl (take_ofW HT_.out HW_.out (by kernel_rfl)) (fun _ _ _ h => h) (Or.inl ⟨by rfl, ?_⟩) hHeld ?_ ?_
  rotate_left
  · intro w' s0
    obtain ⟨s0, s1, s2⟩ := s0
    go_simp
    with_reducible rfl
  rotate_left
  · simp only [Act.put, List.setIfInBounds_toArray, List.set_cons_zero, List.set_cons_succ, i64_w, i32_w]
    rfl
  refine one_ (i := 9) (N := some 93) #[true, true, true, true, true, true, true, true, true, true, false, false, false, false, false, false] rfl rfl (one_of HT_.out (by kernel_rfl)) (by decide) (fun K hK => ?_)
  refine goes_ Try.func69 (by kernel_rfl) rfl #[.slice Ad data.length cd] (by rfl) rfl rfl (by first | rfl | (simp only [List.map_toArray, List.map_cons, List.map_nil]; first | done | rfl)) ?_
  refine (spec_l1Bytes.calls Ad cd data data _ (Kd.C_below HR.out HB.out) HC.out (by unfold spec_l1Bytes.f; rw [Option.bind_some, List.length_nil, if_pos (by have := HDL.out; omega), List.nil_append])).mono ?_
  rintro e w6 ⟨v, rfl, ho, hb⟩
  refine ⟨_, rfl, ?_⟩
  have HCD := Aside0.mk (Kd.R_lower ho HB.out.size)
  have HCB : Aside0 (∀ q, v.ownBlock = some q → N0 ≤ q) := ⟨fun q hq => Nat.le_trans HN0.out (Kd.R_base ho q hq)⟩
  have HS1 := Aside0.mk (Kd.S_elder' HS1.out (Kd.R_base ho) hb)
  have HS0 := Aside0.mk (Kd.S_below HS0.out hb)
  have HN0 : Aside0 (N0 ≤ w6.heap.size) := ⟨Nat.le_trans HN0.out hb.size⟩
  have BG := Aside0.mk (blk_below BG.out hb)
  have BP := Aside0.mk (blk_below BP.out hb)
  have HB := Aside0.mk (below_step HB.out hb)
  clear hb ho hHeld
  obtain ⟨Ac, cc, rfl⟩ := Kd.R_slice HCD.out
  refine hK.out _ _ (⟨(blk_cell BG.out 1).trans rfl, (blk_cell BP.out 1).trans rfl, (blk_cell BP.out 2).trans rfl⟩) (fun hHeld => ?_)
  clear hK K
  refine norm_ (a' := ?_) ?_ ?_
  rotate_left
  · show Act.put _ (some 93) _ = _
    simp only [Act.put, List.setIfInBounds_toArray, List.set_cons_zero, List.set_cons_succ, i64_w, i32_w]
    rfl
  refine pure_ (i := 10) (N := some 94) (v := ?_) (a' := ?_) #[true, true, true, true, true, true, true, true, true, true, true, false, false, false, false, false] rfl rfl (any_of HT_.out (by kernel_rfl)) (fun _ _ _ h => h) (Or.inl ⟨by rfl, ?_⟩) ?_ ?_
  rotate_left
  · intro w'
    go_simp
    with_reducible rfl
  rotate_left
  · simp only [Act.put, List.setIfInBounds_toArray, List.set_cons_zero, List.set_cons_succ, i64_w, i32_w]
    rfl
  refine one_ (i := 11) (N := some 95) #[true, true, true, true, true, true, true, true, true, true, true, true, false, false, false, false] rfl rfl (one_of HT_.out (by kernel_rfl)) (by decide) (fun K hK => ?_)
  refine value_ (w1 := ?_) (v := ?_) (by rfl) rfl ?_ ?_
  rotate_left 2
  · go_simp
    constructor
    · rfl
    · rfl
  refine hK.out _ _ (⟨(blk_cell (blk_alloc BG.out _) 1).trans rfl, (blk_cell (blk_alloc BP.out _) 1).trans rfl, (blk_cell (blk_alloc BP.out _) 2).trans rfl⟩) (fun hHeld => ?_)
  clear hK K
  refine norm_ (a' := ?_) ?_ ?_
  rotate_left
  · show Act.put _ (some 95) _ = _
    simp only [Act.put, List.setIfInBounds_toArray, List.set_cons_zero, List.set_cons_succ, i64_w, i32_w]
    rfl
  refine one_ (i := 12) (N := some 96) #[true, true, true, true, true, true, true, true, true, true, true, true, true, false, false, false] rfl rfl (one_of HT_.out (by kernel_rfl)) (by decide) (fun K hK => ?_)
  refine Kd.S_append_step k185 (w0 := w0) w0.heap.size (by rfl) (.tmp 88) (.tmp 95) 42 185 (.agg #[(.int .i64 0), (.slice none 0 0)]) 32 rfl Try.underlying42 info185 rfl (by decide) (by omega) (.slice A1 ps.length c1) ps (⟨at_, data⟩ : S185) [.int .i64 at_, .slice Ac data.length cc] (fun q => Q q ∨ N0 ≤ q) (fun q => some q = (.slice Ac data.length cc : Value).ownBlock) rfl rfl ?aP (fun q hq => ⟨.inr (HCB.out q hq.symm), ((Kd.R_apart' HCD.out (Kd.S_typed HS1.out) (by decide)).1 q hq.symm).2⟩) ?aF ?aO ?aB ?aS ?aL ?_
  (case aP => exact k185_mkM _ _ _ (⟨at_, data⟩ : S185) (Kd.R_tight rfl HCD.out))
  (case aB => exact HB.out)
  (case aF => exact (fun q hq => .inr (Nat.le_trans HN0.out hq)))
  (case aO => exact Kd.S_mono HS1.out (fun q hq => ⟨hq.1, fun e_ => hq.2 e_⟩))
  (case aS => exact HB.out.size)
  (case aL => have := HPS.out; omega)
  intro v7 w7 ho hb hg hat
  have BG := Aside0.mk (blk_grown BG.out hg (Kd.S_ne HS1.out BG.out (by decide)))
  have BP := Aside0.mk (blk_grown BP.out hg (Kd.S_ne HS1.out BP.out (by decide)))
  have HS0 := Aside0.mk (Kd.S_over' HS0.out (Kd.S_typed HS1.out) (by decide) hg)
  have HN0 : Aside0 (N0 ≤ w7.heap.size) := ⟨Nat.le_trans HN0.out hg.size⟩
  have HS1 := Aside0.mk ho
  have HB := Aside0.mk hb
  clear ho hb hg hat hHeld HCD
  obtain ⟨A6, c6, rfl⟩ := Kd.S_slice HS1.out
  refine hK.out _ _ (⟨(blk_cell BG.out 1).trans rfl, (blk_cell BP.out 1).trans rfl, (blk_cell BP.out 2).trans rfl⟩) (fun hHeld => ?_)
  clear hK K
  refine norm_ (a' := ?_) ?_ ?_
  rotate_left
  · show Act.put _ (some 96) _ = _
    simp only [Act.put, List.setIfInBounds_toArray, List.set_cons_zero, List.set_cons_succ, i64_w, i32_w]
    rfl
  refine pure_ (i := 13) (N := some 97) (v := ?_) (a' := ?_) #[true, true, true, true, true, true, true, true, true, true, true, true, true, true, false, false] rfl rfl (any_of HT_.out (by kernel_rfl)) (fun _ _ _ h => h) (Or.inl ⟨by rfl, ?_⟩) ?_ ?_
  rotate_left
  · intro w'
    go_simp
    with_reducible rfl
  rotate_left
  · simp only [Act.put, List.setIfInBounds_toArray, List.set_cons_zero, List.set_cons_succ, i64_w, i32_w]
    rfl
  refine pure_ (i := 14) (N := some 98) (v := ?_) (a' := ?_) #[true, true, true, true, true, true, true, true, true, true, true, true, true, true, true, false] rfl rfl (any_of HT_.out (by kernel_rfl)) (fun _ _ _ h => h) (Or.inl ⟨by rfl, ?_⟩) ?_ ?_
  rotate_left
  · intro w'
    go_simp
    with_reducible rfl
  rotate_left
  · simp only [Act.put, List.setIfInBounds_toArray, List.set_cons_zero, List.set_cons_succ, i64_w, i32_w]
    rfl
  refine last_ (i := 15) (N := none) #[true, true, true, true, true, true, true, true, true, true, true, true, true, true, true, true] rfl rfl (one_of HT_.out (by kernel_rfl)) (by decide) (fun K hK => ?_)
  refine store_blk_step (by rfl) rfl 42 (.tmp 98) (.tmp 96) rfl (off := 1) (u := .slice A6 (ps ++ [(⟨at_, data⟩ : S185)]).length c6) #[.slice A0 safe.length c0, .slice A6 (ps ++ [(⟨at_, data⟩ : S185)]).length c6] rfl rfl BG.out [.slice A6 (ps ++ [(⟨at_, data⟩ : S185)]).length c6] rfl (by kernel_rfl) (Nat.le_of_ble_eq_true rfl) rfl rfl ?_
  intro w10 hblk hgrw
  have HS1 := Aside0.mk (S_off HS1.out BG.out (by decide) hgrw)
  have HS0 := Aside0.mk (S_off HS0.out BG.out (by decide) hgrw)
  have HB := Aside0.mk (HB.out.grown hgrw HB.out.size (by intro q hq; cases hq; exact HG.out))
  have BG := Aside0.mk hblk
  clear hblk hgrw hHeld BP
  refine hK.out _ _ ?_
  clear hK K
  refine done_ (done_of HT_.out (by kernel_rfl)) ?_
  try clear hHeld
  go_wp2_with fail
  go_ret
  exact ⟨rfl, ⟨A0, c0, A6, c6, _, _, BG.out, ⟨fun q h1 h2 => h2.elim (HDJ.out q h1.1) (fun h3 => by have := h1.2; omega), HS0.out, HS1.out⟩, HG.out⟩, HB.out⟩
end Go.Proofs.Ytlopmffdebhpfaa.G

/-! ## CloneA -/
namespace Go.Proofs.Ytlopmffdebhpfaa.G
open Go.RowKit Go.Proofs.YtlopmffdebhpfaaW.PrintWords Go.Proofs.YtlopmffdebhpfaaW.PrintLast Go.Proofs.YtlopmffdebhpfaaW.PrintMore
set_option linter.unusedVariables false
set_option linter.unusedSimpArgs false

theorem impl_Disk_clone.copyf {l : List Int} (h : l.length ≤ 1048576) : slices_Clone_byte_byte.f l = some l := by
  unfold slices_Clone_byte_byte.f
  rw [if_pos (by omega)]
def impl_Disk_clone.T5 : Bool × List (List Nat × List Nat) := (true, [([], []), ([0], [0]), ([], []), ([2], [2]), ([3], [3]), ([1, 4, 3], [1, 4]), ([0, 1, 2, 3, 4, 5], []), ([6, 5, 5, 0, 1, 2, 3, 4, 5], [5, 6])])
def impl_Disk_clone.B5 : List Nat := [0, 1, 0, 4, 12, 31, 63, 127]
theorem impl_Disk_clone.tab5 : rtab .any (opsOf Try.f109 5) = impl_Disk_clone.T5 := by kernel_rfl
theorem impl_Disk_clone.bits5 : waitsOk impl_Disk_clone.T5.2 impl_Disk_clone.B5 = true := by kernel_rfl
def impl_Disk_clone.T10 : Bool × List (List Nat × List Nat) := (true, [([], []), ([0], [0]), ([], []), ([2], [2]), ([], []), ([4], [4]), ([5], [5]), ([3, 6], [3, 6]), ([7], [7]), ([1, 8, 6], [1, 8]), ([0, 1, 2, 3, 4, 5, 6, 7, 8, 9], []), ([10, 9, 9, 0, 1, 2, 3, 4, 5, 6, 7, 8, 9], [9, 10])])
def impl_Disk_clone.B10 : List Nat := [0, 1, 0, 4, 0, 16, 48, 124, 252, 511, 1023, 2047]
theorem impl_Disk_clone.tab10 : rtab .any (opsOf Try.f109 10) = impl_Disk_clone.T10 := by kernel_rfl
theorem impl_Disk_clone.bits10 : waitsOk impl_Disk_clone.T10.2 impl_Disk_clone.B10 = true := by kernel_rfl
set_option maxHeartbeats 8000000 in
set_option maxRecDepth 100000 in
theorem impl_Disk_clone.apart (A0 : Option Addr) (c0 : Nat) (safe : List (List Int)) (A1 : Option Addr) (c1 : Nat) (ps : List S185) (w : World) (hr0 : Kd.C (Kd.slice 5 (Kd.int .u8)) w A0 safe.length safe) (hc0 : safe.length ≤ c0) (hr1 : Kd.C k185 w A1 ps.length ps) (hc1 : ps.length ≤ c1)
    (hl0 : safe.length ≤ 1048576) (hl1 : ps.length ≤ 1048576) (hb0 : ∀ l ∈ safe, l.length ≤ 1048576) (hb1 : ∀ p ∈ ps, p.f1.length ≤ 1048576) :
    Calls Try.prog 109 #[.agg #[.slice A0 safe.length c0, .slice A1 ps.length c1]] w fun e w' => ∃ v0 v1 : Value, ∃ P Q, e = .returned (.agg #[v0, v1]) ∧ IsDisk w' w.heap.size P Q v0 v1 safe ps ∧ Below w.heap.size w w' := by
  have hu44 := Try.underlying44
  have hu185 := Try.underlying185
  have HR0 := Aside0.mk hr0
  have HR1 := Aside0.mk hr1
  have HC0 := Aside0.mk hc0
  have HC1 := Aside0.mk hc1
  have HL0 := Aside0.mk hl0
  have HL1 := Aside0.mk hl1
  have HB0 := Aside0.mk hb0
  have HB1 := Aside0.mk hb1
  clear hr0 hr1 hc0 hc1 hl0 hl1 hb0 hb1
  go_enter Try.func109, Try.ntmps109
  go_wp2_with (first | ((with_reducible refine gate_dst (N := 1) rfl ?_); refine box_event ?hg (N := 1) ?hd (cs := #[.slice A0 safe.length c0, .slice A1 ps.length c1]) (t := 44) ?hr ?_; (case hd => rfl); (case hg => rfl); (case hr => first | (go_simp; done) | (go_simp; rfl)); intro gd hgr w1 hbox hbel; have BD := Aside0.mk hbox; have HB := Aside0.mk hbel; have hd0 : w1.cell? ⟨gd, 0, none⟩ = some (.slice A0 safe.length c0) := (blk_cell hbox 0).trans rfl; clear hbox hbel hgr) | ((with_reducible refine gate_dst (N := 2) rfl ?_); refine box_event ?hg (N := 2) ?hd (cs := #[.slice none 0 0, .slice none 0 0]) (t := 44) ?hr ?_; (case hd => rfl); (case hg => rfl); (case hr => first | (go_simp; done) | (go_simp; rfl)); intro gr hgr w2 hbox hbel; have BR := Aside0.mk hbox; have GRw : Aside0 (w.heap.size ≤ gr) := ⟨by rw [hgr]; exact HB.out.size⟩; have BD := Aside0.mk (blk_below BD.out hbel); have HB := Aside0.mk (below_step HB.out hbel); clear hbox hbel hgr) | ((with_reducible refine gate_dst (N := 3) rfl ?_); refine box_event ?hg (N := 3) ?hd (cs := #[.slice none 0 0, .slice none 0 0]) (t := 44) ?hr ?_; (case hd => rfl); (case hg => rfl); (case hr => first | (go_simp; done) | (go_simp; rfl)); intro go hgr w3 hbox hbel; have BO := Aside0.mk hbox; have GOw : Aside0 (w.heap.size ≤ go) := ⟨by rw [hgr]; exact HB.out.size⟩; have NDO : Aside0 (gd ≠ go) := ⟨by have := blk_lt BD.out; omega⟩; have NRO : Aside0 (gr ≠ go) := ⟨by have := blk_lt BR.out; omega⟩; have BD := Aside0.mk (blk_below BD.out hbel); have BR := Aside0.mk (blk_below BR.out hbel); have HB := Aside0.mk (below_step HB.out hbel); have hd0 : w3.cell? ⟨gd, 0, none⟩ = some (.slice A0 safe.length c0) := (blk_cell BD.out 0).trans rfl; clear hbox hbel hgr))
  go_loopg [11] safe.length (fun gk v11 w' => ∃ (x : Int) (u0 : Value), v11 = .int .i64 x ∧ Aside0 (0 ≤ x ∧ (gk : Int) + x = (safe.length : Int)) ∧ Aside0 (Kd.S (Kd.slice 5 (Kd.int .u8)) 22 w' w.heap.size (fun _ => True) u0 (safe.take x.toNat)) ∧ Aside0 (w'.heap[gd]? = some (.cells #[.slice A0 safe.length c0, .slice A1 ps.length c1] 44 (0, 0))) ∧ Aside0 (w'.heap[gr]? = some (.cells #[.slice none 0 0, .slice none 0 0] 44 (0, 0))) ∧ Aside0 (w'.heap[go]? = some (.cells #[u0, .slice none 0 0] 44 (0, 0))) ∧ Aside0 (Below w.heap.size w w'))
  case atStart =>
    exact ⟨0, .slice none 0 0, rfl, ⟨by omega⟩, ⟨Kd.S_nil _ _ _ _ _⟩, BD, BR, BO, HB⟩
  case round =>
    clear BD BR BO HB
    obtain ⟨x, u0, rfl, HXK, HS, BD, BR, BO, HB⟩ := hrel
    have hd0 : wr.cell? ⟨gd, 0, none⟩ = some (.slice A0 safe.length c0) := (blk_cell BD.out 0).trans rfl
    have hd1 : wr.cell? ⟨gd, 1, none⟩ = some (.slice A1 ps.length c1) := (blk_cell BD.out 1).trans rfl
    cases gk with
    | succ gk =>
      have p0 : 0 ≤ x := HXK.out.1
      have q0 : x < (safe.length : Int) := by have := HXK.out; omega
      have c4b0 : decide (x < (safe.length : Int)) = true := decide_eq_true q0
      have c4b1 : decide (0 ≤ x) = true := decide_eq_true p0
      obtain ⟨ad, A5, c5, e5, hx0, hl5, hi5⟩ := at_L2 HR0.out x p0 q0
      cases e5
      replace hx0 := (HB.out.cell (World.block_lt_of_cell? w _ hx0)).trans hx0
      have HI5 := Aside0.mk hi5
      have HL5 := Aside0.mk hl5
      have NF := Aside0.mk (show slices_Clone_byte_byte.f (rd_L2 safe x) = some (rd_L2 safe x) from impl_Disk_clone.copyf (HB0.out _ (getD_mem (z := []) p0 q0)))
      have HP0 := Aside0.mk p0
      have HQ0 := Aside0.mk q0
      clear hl5 hi5
      replace p0 := eq_true p0
      replace q0 := eq_true q0
      go_wp2_with fail
      refine start_ (n := 8) (S := fun w' => w'.cell? ⟨go, 0, none⟩ = some (u0) ∧ w'.cell? ⟨go, 1, none⟩ = some (.slice none 0 0)) (ds := [7]) #[false, false, false, false, false, false, false, false] (by kernel_rfl) rfl rfl (⟨(blk_cell BO.out 0).trans rfl, (blk_cell BO.out 1).trans rfl⟩) (fun hHeld => ?_); refine with_tabW impl_Disk_clone.tab5 impl_Disk_clone.bits5 (fun HT_ HW_ => ?_)
      have BD := Aside0.mk (blk_drew BD.out)
      have BR := Aside0.mk (blk_drew BR.out)
      have BO := Aside0.mk (blk_drew BO.out)
      have HB := Aside0.mk (below_drew1 HB.out)
      have HS := Aside0.mk (Kd.S_drew HS.out)
      refine pure_ (i := 0) (N := some 15) (v := ?_) (a' := ?_) #[true, false, false, false, false, false, false, false] rfl rfl (any_of HT_.out (by kernel_rfl)) (fun _ _ _ h => h) (Or.inl ⟨by rfl, ?_⟩) ?_ ?_
      rotate_left
      · intro w'
        go_simp
        with_reducible rfl
      rotate_left
      · simp only [Act.put, List.setIfInBounds_toArray, List.set_cons_zero, List.set_cons_succ, i64_w, i32_w]
        rfl
      refine take_ (i := 1) (N := some 16) (v := ?_) (a' := ?_) #[true, true, false, false, false, false, false, false] rfl rfl (take_ofW HT_.out HW_.out (by kernel_rfl)) (fun _ _ _ h => h) (Or.inl ⟨by rfl, ?_⟩) hHeld ?_ ?_
      rotate_left
      · intro w' s0
        obtain ⟨s0, s1⟩ := s0
        go_simp
        with_reducible rfl
      rotate_left
      · simp only [Act.put, List.setIfInBounds_toArray, List.set_cons_zero, List.set_cons_succ, i64_w, i32_w]
        rfl
      refine pure_ (i := 2) (N := some 17) (v := ?_) (a' := ?_) #[true, true, true, false, false, false, false, false] rfl rfl (any_of HT_.out (by kernel_rfl)) (fun _ _ _ h => h) (Or.inl ⟨by rfl, ?_⟩) ?_ ?_
      rotate_left
      · intro w'
        go_simp
        with_reducible rfl
      rotate_left
      · simp only [Act.put, List.setIfInBounds_toArray, List.set_cons_zero, List.set_cons_succ, i64_w, i32_w]
        rfl
      refine one_ (i := 3) (N := some 18) #[true, true, true, true, false, false, false, false] rfl rfl (one_of HT_.out (by kernel_rfl)) (by decide) (fun K hK => ?_)
      refine goes_ Try.func90 (by kernel_rfl) rfl #[.slice A5 (rd_L2 safe x).length c5] (by rfl) rfl rfl (by first | rfl | (simp only [List.map_toArray, List.map_cons, List.map_nil]; first | done | rfl)) ?_
      refine (slices_Clone_byte_byte.calls A5 c5 (rd_L2 safe x) _ _ (Kd.C_below HI5.out HB.out) HL5.out NF.out).mono ?_
      rintro e w5 ⟨v, rfl, ho, hb⟩
      refine ⟨_, rfl, ?_⟩
      have HC := Aside0.mk (Kd.R_lower ho HB.out.size)
      have HS := Aside0.mk (Kd.S_elder' HS.out (Kd.R_base ho) hb)
      have BD := Aside0.mk (blk_below BD.out hb)
      have BR := Aside0.mk (blk_below BR.out hb)
      have BO := Aside0.mk (blk_below BO.out hb)
      have HB := Aside0.mk (below_step HB.out hb)
      clear hb ho hHeld
      obtain ⟨Ac, cc, rfl⟩ := Kd.R_slice HC.out
      refine hK.out _ _ (⟨(blk_cell BO.out 0).trans rfl, (blk_cell BO.out 1).trans rfl⟩) (fun hHeld => ?_)
      clear hK K
      refine norm_ (a' := ?_) ?_ ?_
      rotate_left
      · show Act.put _ (some 18) _ = _
        simp only [Act.put, List.setIfInBounds_toArray, List.set_cons_zero, List.set_cons_succ, i64_w, i32_w]
        rfl
      refine one_ (i := 4) (N := some 19) #[true, true, true, true, true, false, false, false] rfl rfl (one_of HT_.out (by kernel_rfl)) (by decide) (fun K hK => ?_)
      refine value_ (w1 := ?_) (v := ?_) (by rfl) rfl ?_ ?_
      rotate_left 2
      · go_simp
        constructor
        · rfl
        · rfl
      refine hK.out _ _ (⟨(blk_cell (blk_alloc BO.out _) 0).trans rfl, (blk_cell (blk_alloc BO.out _) 1).trans rfl⟩) (fun hHeld => ?_)
      clear hK K
      refine norm_ (a' := ?_) ?_ ?_
      rotate_left
      · show Act.put _ (some 19) _ = _
        simp only [Act.put, List.setIfInBounds_toArray, List.set_cons_zero, List.set_cons_succ, i64_w, i32_w]
        rfl
      refine one_ (i := 5) (N := some 20) #[true, true, true, true, true, true, false, false] rfl rfl (one_of HT_.out (by kernel_rfl)) (by decide) (fun K hK => ?_)
      refine Kd.S_append_step (Kd.slice 5 (Kd.int .u8)) (w0 := w) w.heap.size (by rfl) (.tmp 16) (.tmp 19) 36 22 (.slice none 0 0) 24 rfl Try.underlying36 info22 rfl (by decide) (by omega) u0 (safe.take x.toNat) (rd_L2 safe x) [.slice Ac (rd_L2 safe x).length cc] (fun _ => True) (fun q => some q = (.slice Ac (rd_L2 safe x).length cc : Value).ownBlock) rfl rfl ?aP (fun q hq => ⟨trivial, ((Kd.R_apart' HC.out (Kd.S_typed HS.out) (by decide)).1 q hq.symm).2⟩) ?aF ?aO ?aB ?aS ?aL ?_
      (case aP => exact Kd.M_row (Kd.R_tight rfl HC.out))
      (case aB => exact HB.out)
      (case aF => exact (fun _ _ => trivial))
      (case aO => exact Kd.S_mono HS.out (fun q hq => ⟨trivial, fun e_ => hq.2 e_⟩))
      (case aS => exact HB.out.size)
      (case aL => rw [List.length_take]; have := HL0.out; omega)
      intro v6 w6 ho hb hg hat
      have BD := Aside0.mk (blk_grown BD.out hg (Kd.S_ne HS.out BD.out (by decide)))
      have BR := Aside0.mk (blk_grown BR.out hg (Kd.S_ne HS.out BR.out (by decide)))
      have BO := Aside0.mk (blk_grown BO.out hg (Kd.S_ne HS.out BO.out (by decide)))
      have HS := Aside0.mk ho
      have HB := Aside0.mk hb
      clear ho hb hg hat hHeld HC
      obtain ⟨A6, c6, rfl⟩ := Kd.S_slice HS.out
      refine hK.out _ _ (⟨(blk_cell BO.out 0).trans rfl, (blk_cell BO.out 1).trans rfl⟩) (fun hHeld => ?_)
      clear hK K
      refine norm_ (a' := ?_) ?_ ?_
      rotate_left
      · show Act.put _ (some 20) _ = _
        simp only [Act.put, List.setIfInBounds_toArray, List.set_cons_zero, List.set_cons_succ, i64_w, i32_w]
        rfl
      refine pure_ (i := 6) (N := some 21) (v := ?_) (a' := ?_) #[true, true, true, true, true, true, true, false] rfl rfl (any_of HT_.out (by kernel_rfl)) (fun _ _ _ h => h) (Or.inl ⟨by rfl, ?_⟩) ?_ ?_
      rotate_left
      · intro w'
        go_simp
        with_reducible rfl
      rotate_left
      · simp only [Act.put, List.setIfInBounds_toArray, List.set_cons_zero, List.set_cons_succ, i64_w, i32_w]
        rfl
      refine last_ (i := 7) (N := none) #[true, true, true, true, true, true, true, true] rfl rfl (one_of HT_.out (by kernel_rfl)) (by decide) (fun K hK => ?_)
      refine store_blk_step (by rfl) rfl 36 (.tmp 21) (.tmp 20) rfl (off := 0) (u := .slice A6 ((safe.take x.toNat) ++ [(rd_L2 safe x)]).length c6) #[.slice A6 ((safe.take x.toNat) ++ [(rd_L2 safe x)]).length c6, .slice none 0 0] rfl rfl BO.out [.slice A6 ((safe.take x.toNat) ++ [(rd_L2 safe x)]).length c6] rfl (by kernel_rfl) (Nat.le_of_ble_eq_true rfl) rfl rfl ?_
      intro w7 hblk hgrw
      have HS := Aside0.mk (S_off HS.out BO.out (by decide) hgrw)
      have BD := Aside0.mk (blk_grown BD.out hgrw (fun e => NDO.out (Option.some.inj e)))
      have BR := Aside0.mk (blk_grown BR.out hgrw (fun e => NRO.out (Option.some.inj e)))
      have HB := Aside0.mk (HB.out.grown hgrw HB.out.size (by intro q hq; cases hq; exact GOw.out))
      have BO := Aside0.mk hblk
      clear hblk hgrw hHeld
      refine hK.out _ _ ?_
      clear hK K
      refine done_ (done_of HT_.out (by kernel_rfl)) ?_
      try clear hHeld
      clear hd0 hd1 hx0
      go_wp2_with fail
      go_roundg gk
      case measure => omega
      case rel =>
        have hw1 : wrap64 (x + 1) = x + 1 := by have := HP0.out; have := HQ0.out; have := HL0.out; unfold wrap64; omega
        exact ⟨x + 1, _, by first | rfl | (rw [hw1]), ⟨by have := HXK.out; omega⟩, ⟨by rw [take_snoc (z := []) HP0.out HQ0.out]; exact HS.out⟩, BD, BR, BO, HB⟩
    | zero =>
      have hx : x = (safe.length : Int) := by have := HXK.out; omega
      subst hx
      have c4b0 : decide ((safe.length : Int) < (safe.length : Int)) = false := decide_eq_false (by omega)
      have hs := HS.out
      rw [Int.toNat_natCast, List.take_length] at hs
      obtain ⟨N0, hN0⟩ : ∃ N, N = wr.heap.size := ⟨_, rfl⟩
      have HS0 := Aside0.mk (Kd.S_mono (Kd.S_bound hs) (ok' := fun q => q < N0) (fun q hq => by have := hq.2.2.1; omega))
      have HN0 : Aside0 (N0 ≤ wr.heap.size) := ⟨Nat.le_of_eq hN0⟩
      clear hs hN0 HS
      go_wp2_with fail
      go_loopg [26] ps.length (fun gk v26 w' => ∃ (x : Int) (u1 : Value), v26 = .int .i64 x ∧ Aside0 (0 ≤ x ∧ (gk : Int) + x = (ps.length : Int)) ∧ Aside0 (Kd.S (Kd.slice 5 (Kd.int .u8)) 22 w' w.heap.size (fun q => q < N0) u0 safe) ∧ Aside0 (Kd.S k185 185 w' w.heap.size (fun q => N0 ≤ q) u1 (ps.take x.toNat)) ∧ Aside0 (N0 ≤ w'.heap.size) ∧ Aside0 (w'.heap[gd]? = some (.cells #[.slice A0 safe.length c0, .slice A1 ps.length c1] 44 (0, 0))) ∧ Aside0 (w'.heap[gr]? = some (.cells #[.slice none 0 0, .slice none 0 0] 44 (0, 0))) ∧ Aside0 (w'.heap[go]? = some (.cells #[u0, u1] 44 (0, 0))) ∧ Aside0 (Below w.heap.size w w'))
      case atStart =>
        exact ⟨0, .slice none 0 0, rfl, ⟨by omega⟩, HS0, ⟨Kd.S_nil _ _ _ _ _⟩, HN0, BD, BR, BO, HB⟩
      case round =>
        clear BD BR BO HB HS0 HN0 hd0 hd1
        obtain ⟨x, u1, rfl, HXK, HS0, HS1, HN0, BD, BR, BO, HB⟩ := hrel
        have hd0 : wr.cell? ⟨gd, 0, none⟩ = some (.slice A0 safe.length c0) := (blk_cell BD.out 0).trans rfl
        have hd1 : wr.cell? ⟨gd, 1, none⟩ = some (.slice A1 ps.length c1) := (blk_cell BD.out 1).trans rfl
        cases gk with
        | succ gk =>
          have p0 : 0 ≤ x := HXK.out.1
          have q0 : x < (ps.length : Int) := by have := HXK.out; omega
          have c4b2 : decide (x < (ps.length : Int)) = true := decide_eq_true q0
          have c4b3 : decide (0 ≤ x) = true := decide_eq_true p0
          obtain ⟨ad, A5, c5, e5, hx0, hx1, hl5, hi5⟩ := at_T185 HR1.out x p0 q0
          cases e5
          replace hx0 := (HB.out.cell (World.block_lt_of_cell? w _ hx0)).trans hx0
          replace hx1 := (HB.out.cell (World.block_lt_of_cell? w _ hx1)).trans hx1
          have HI5 := Aside0.mk hi5
          have HL5 := Aside0.mk hl5
          have NF := Aside0.mk (show slices_Clone_byte_byte.f (rd_T185 ps x).f1 = some (rd_T185 ps x).f1 from impl_Disk_clone.copyf (HB1.out _ (getD_mem (z := z185) p0 q0)))
          have HP0 := Aside0.mk p0
          have HQ0 := Aside0.mk q0
          clear hl5 hi5
          replace p0 := eq_true p0
          replace q0 := eq_true q0
          go_wp2_with (first | ((with_reducible refine gate_dst (N := 7) rfl ?_); refine box_event ?hg (N := 7) ?hd (cs := #[.int .i64 0, .slice none 0 0]) (t := 185) ?hr ?_; (case hd => rfl); (case hg => rfl); (case hr => first | (go_simp; done) | (go_simp; rfl)); intro gp hgr w8 hbox hbel; have BP := Aside0.mk hbox; have GP := Aside0.mk hgr; have GPw : Aside0 (w.heap.size ≤ gp) := ⟨by rw [hgr]; exact HB.out.size⟩; have NDP : Aside0 (gd ≠ gp) := ⟨by have := blk_lt BD.out; omega⟩; have NRP : Aside0 (gr ≠ gp) := ⟨by have := blk_lt BR.out; omega⟩; have NOP : Aside0 (go ≠ gp) := ⟨by have := blk_lt BO.out; omega⟩; have HS1 := Aside0.mk (Kd.S_below (Kd.S_elderB HS1.out gp (Nat.le_of_eq hgr.symm)) hbel); have HN0 : Aside0 (N0 ≤ w8.heap.size) := ⟨Nat.le_trans HN0.out hbel.size⟩; have BD := Aside0.mk (blk_below BD.out hbel); have BR := Aside0.mk (blk_below BR.out hbel); have BO := Aside0.mk (blk_below BO.out hbel); have HS0 := Aside0.mk (Kd.S_below HS0.out hbel); have HB := Aside0.mk (below_step HB.out hbel); clear hbox hbel hgr) | ((with_reducible refine gate_ (.store 185 (.tmp 7) (.tmp 29)) rfl ?_); refine store_blk rfl rfl 185 (.tmp 7) (.tmp 29) rfl (off := 0) (u := .agg #[.int .i64 (rd_T185 ps x).f0, .slice A5 (rd_T185 ps x).f1.length c5]) #[.int .i64 (rd_T185 ps x).f0, .slice A5 (rd_T185 ps x).f1.length c5] rfl rfl BP.out [.int .i64 (rd_T185 ps x).f0, .slice A5 (rd_T185 ps x).f1.length c5] rfl (by kernel_rfl) (Nat.le_of_ble_eq_true rfl) rfl rfl ?_; intro w9 hblk hgrw; have BD := Aside0.mk (blk_grown BD.out hgrw (fun e => NDP.out (Option.some.inj e))); have BR := Aside0.mk (blk_grown BR.out hgrw (fun e => NRP.out (Option.some.inj e))); have BO := Aside0.mk (blk_grown BO.out hgrw (fun e => NOP.out (Option.some.inj e))); have HS1 := Aside0.mk (Kd.S_grown HS1.out hgrw (fun q hq e => hq.2 (Option.some.inj e))); have HS0 := Aside0.mk (S_off HS0.out BP.out (by decide) hgrw); have HN0 : Aside0 (N0 ≤ w9.heap.size) := ⟨Nat.le_trans HN0.out hgrw.size⟩; have HB := Aside0.mk (HB.out.grown hgrw HB.out.size (by intro q hq; cases hq; exact GPw.out)); have BP := Aside0.mk hblk; clear hblk hgrw))
          refine start_ (n := 12) (S := fun w' => w'.cell? ⟨go, 0, none⟩ = some (u0) ∧ w'.cell? ⟨go, 1, none⟩ = some (u1) ∧ w'.cell? ⟨gp, 0, none⟩ = some (.int .i64 (rd_T185 ps x).f0) ∧ w'.cell? ⟨gp, 1, none⟩ = some (.slice A5 (rd_T185 ps x).f1.length c5)) (ds := [11]) #[false, false, false, false, false, false, false, false, false, false, false, false] (by kernel_rfl) rfl rfl (⟨(blk_cell BO.out 0).trans rfl, (blk_cell BO.out 1).trans rfl, (blk_cell BP.out 0).trans rfl, (blk_cell BP.out 1).trans rfl⟩) (fun hHeld => ?_); refine with_tabW impl_Disk_clone.tab10 impl_Disk_clone.bits10 (fun HT_ HW_ => ?_)
          have BD := Aside0.mk (blk_drew BD.out)
          have BR := Aside0.mk (blk_drew BR.out)
          have BO := Aside0.mk (blk_drew BO.out)
          have HB := Aside0.mk (below_drew1 HB.out)
          have HS0 := Aside0.mk (Kd.S_drew HS0.out)
          have HS1 := Aside0.mk (Kd.S_drew HS1.out)
          have BP := Aside0.mk (blk_drew BP.out)
          refine pure_ (i := 0) (N := some 30) (v := ?_) (a' := ?_) #[true, false, false, false, false, false, false, false, false, false, false, false] rfl rfl (any_of HT_.out (by kernel_rfl)) (fun _ _ _ h => h) (Or.inl ⟨by rfl, ?_⟩) ?_ ?_
          rotate_left
          · intro w'
            go_simp
            with_reducible rfl
          rotate_left
          · simp only [Act.put, List.setIfInBounds_toArray, List.set_cons_zero, List.set_cons_succ, i64_w, i32_w]
            rfl
          refine take_ (i := 1) (N := some 31) (v := ?_) (a' := ?_) #[true, true, false, false, false, false, false, false, false, false, false, false] rfl rfl (take_ofW HT_.out HW_.out (by kernel_rfl)) (fun _ _ _ h => h) (Or.inl ⟨by rfl, ?_⟩) hHeld ?_ ?_
          rotate_left
          · intro w' s0
            obtain ⟨s0, s1, s2, s3⟩ := s0
            go_simp
            with_reducible rfl
          rotate_left
          · simp only [Act.put, List.setIfInBounds_toArray, List.set_cons_zero, List.set_cons_succ, i64_w, i32_w]
            rfl
          refine pure_ (i := 2) (N := some 32) (v := ?_) (a' := ?_) #[true, true, true, false, false, false, false, false, false, false, false, false] rfl rfl (any_of HT_.out (by kernel_rfl)) (fun _ _ _ h => h) (Or.inl ⟨by rfl, ?_⟩) ?_ ?_
          rotate_left
          · intro w'
            go_simp
            with_reducible rfl
          rotate_left
          · simp only [Act.put, List.setIfInBounds_toArray, List.set_cons_zero, List.set_cons_succ, i64_w, i32_w]
            rfl
          refine take_ (i := 3) (N := some 33) (v := ?_) (a' := ?_) #[true, true, true, true, false, false, false, false, false, false, false, false] rfl rfl (take_ofW HT_.out HW_.out (by kernel_rfl)) (fun _ _ _ h => h) (Or.inl ⟨by rfl, ?_⟩) hHeld ?_ ?_
          rotate_left
          · intro w' s0
            obtain ⟨s0, s1, s2, s3⟩ := s0
            go_simp
            with_reducible rfl
          rotate_left
          · simp only [Act.put, List.setIfInBounds_toArray, List.set_cons_zero, List.set_cons_succ, i64_w, i32_w]
            rfl
          refine pure_ (i := 4) (N := some 34) (v := ?_) (a' := ?_) #[true, true, true, true, true, false, false, false, false, false, false, false] rfl rfl (any_of HT_.out (by kernel_rfl)) (fun _ _ _ h => h) (Or.inl ⟨by rfl, ?_⟩) ?_ ?_
          rotate_left
          · intro w'
            go_simp
            with_reducible rfl
          rotate_left
          · simp only [Act.put, List.setIfInBounds_toArray, List.set_cons_zero, List.set_cons_succ, i64_w, i32_w]
            rfl
          refine take_ (i := 5) (N := some 35) (v := ?_) (a' := ?_) #[true, true, true, true, true, true, false, false, false, false, false, false] rfl rfl (take_ofW HT_.out HW_.out (by kernel_rfl)) (fun _ _ _ h => h) (Or.inl ⟨by rfl, ?_⟩) hHeld ?_ ?_
          rotate_left
          · intro w' s0
            obtain ⟨s0, s1, s2, s3⟩ := s0
            go_simp
            with_reducible rfl
          rotate_left
          · simp only [Act.put, List.setIfInBounds_toArray, List.set_cons_zero, List.set_cons_succ, i64_w, i32_w]
            rfl
          refine one_ (i := 6) (N := some 36) #[true, true, true, true, true, true, true, false, false, false, false, false] rfl rfl (one_of HT_.out (by kernel_rfl)) (by decide) (fun K hK => ?_)
          refine goes_ Try.func90 (by kernel_rfl) rfl #[.slice A5 (rd_T185 ps x).f1.length c5] (by rfl) rfl rfl (by first | rfl | (simp only [List.map_toArray, List.map_cons, List.map_nil]; first | done | rfl)) ?_
          refine (slices_Clone_byte_byte.calls A5 c5 (rd_T185 ps x).f1 _ _ (Kd.C_below HI5.out HB.out) HL5.out NF.out).mono ?_
          rintro e w5 ⟨v, rfl, ho, hb⟩
          refine ⟨_, rfl, ?_⟩
          have HC := Aside0.mk (Kd.R_lower ho HB.out.size)
          have HCB : Aside0 (∀ q, v.ownBlock = some q → N0 ≤ q) := ⟨fun q hq => Nat.le_trans HN0.out (Kd.R_base ho q hq)⟩
          have HS1 := Aside0.mk (Kd.S_elder' HS1.out (Kd.R_base ho) hb)
          have HS0 := Aside0.mk (Kd.S_below HS0.out hb)
          have HN0 : Aside0 (N0 ≤ w5.heap.size) := ⟨Nat.le_trans HN0.out hb.size⟩
          have BD := Aside0.mk (blk_below BD.out hb)
          have BR := Aside0.mk (blk_below BR.out hb)
          have BO := Aside0.mk (blk_below BO.out hb)
          have BP := Aside0.mk (blk_below BP.out hb)
          have HB := Aside0.mk (below_step HB.out hb)
          clear hb ho hHeld
          obtain ⟨Ac, cc, rfl⟩ := Kd.R_slice HC.out
          refine hK.out _ _ (⟨(blk_cell BO.out 0).trans rfl, (blk_cell BO.out 1).trans rfl, (blk_cell BP.out 0).trans rfl, (blk_cell BP.out 1).trans rfl⟩) (fun hHeld => ?_)
          clear hK K
          refine norm_ (a' := ?_) ?_ ?_
          rotate_left
          · show Act.put _ (some 36) _ = _
            simp only [Act.put, List.setIfInBounds_toArray, List.set_cons_zero, List.set_cons_succ, i64_w, i32_w]
            rfl
          refine pure_ (i := 7) (N := some 37) (v := ?_) (a' := ?_) #[true, true, true, true, true, true, true, true, false, false, false, false] rfl rfl (any_of HT_.out (by kernel_rfl)) (fun _ _ _ h => h) (Or.inl ⟨by rfl, ?_⟩) ?_ ?_
          rotate_left
          · intro w'
            go_simp
            with_reducible rfl
          rotate_left
          · simp only [Act.put, List.setIfInBounds_toArray, List.set_cons_zero, List.set_cons_succ, i64_w, i32_w]
            rfl
          refine one_ (i := 8) (N := some 38) #[true, true, true, true, true, true, true, true, true, false, false, false] rfl rfl (one_of HT_.out (by kernel_rfl)) (by decide) (fun K hK => ?_)
          refine value_ (w1 := ?_) (v := ?_) (by rfl) rfl ?_ ?_
          rotate_left 2
          · go_simp
            constructor
            · rfl
            · rfl
          refine hK.out _ _ (⟨(blk_cell (blk_alloc BO.out _) 0).trans rfl, (blk_cell (blk_alloc BO.out _) 1).trans rfl, (blk_cell (blk_alloc BP.out _) 0).trans rfl, (blk_cell (blk_alloc BP.out _) 1).trans rfl⟩) (fun hHeld => ?_)
          clear hK K
          refine norm_ (a' := ?_) ?_ ?_
          rotate_left
          · show Act.put _ (some 38) _ = _
            simp only [Act.put, List.setIfInBounds_toArray, List.set_cons_zero, List.set_cons_succ, i64_w, i32_w]
            rfl
          refine one_ (i := 9) (N := some 39) #[true, true, true, true, true, true, true, true, true, true, false, false] rfl rfl (one_of HT_.out (by kernel_rfl)) (by decide) (fun K hK => ?_)
          refine Kd.S_append_step k185 (w0 := w) w.heap.size (by rfl) (.tmp 31) (.tmp 38) 42 185 (.agg #[(.int .i64 0), (.slice none 0 0)]) 32 rfl Try.underlying42 info185 rfl (by decide) (by omega) u1 (ps.take x.toNat) (rd_T185 ps x) [.int .i64 (rd_T185 ps x).f0, .slice Ac (rd_T185 ps x).f1.length cc] (fun q => N0 ≤ q) (fun q => some q = (.slice Ac (rd_T185 ps x).f1.length cc : Value).ownBlock) rfl rfl ?aP (fun q hq => ⟨(HCB.out q hq.symm), ((Kd.R_apart' HC.out (Kd.S_typed HS1.out) (by decide)).1 q hq.symm).2⟩) ?aF ?aO ?aB ?aS ?aL ?_
          (case aP => exact k185_mkM _ _ _ (rd_T185 ps x) (Kd.R_tight rfl HC.out))
          (case aB => exact HB.out)
          (case aF => exact (fun q hq => (Nat.le_trans HN0.out hq)))
          (case aO => exact Kd.S_mono HS1.out (fun q hq => ⟨hq.1.1, fun e_ => hq.2 e_⟩))
          (case aS => exact HB.out.size)
          (case aL => rw [List.length_take]; have := HL1.out; omega)
          intro v6 w6 ho hb hg hat
          have BD := Aside0.mk (blk_grown BD.out hg (Kd.S_ne HS1.out BD.out (by decide)))
          have BR := Aside0.mk (blk_grown BR.out hg (Kd.S_ne HS1.out BR.out (by decide)))
          have BO := Aside0.mk (blk_grown BO.out hg (Kd.S_ne HS1.out BO.out (by decide)))
          have HS0 := Aside0.mk (Kd.S_over' HS0.out (Kd.S_typed HS1.out) (by decide) hg)
          have HN0 : Aside0 (N0 ≤ w6.heap.size) := ⟨Nat.le_trans HN0.out hg.size⟩
          have BP := Aside0.mk (blk_grown BP.out hg (Kd.S_away HS1.out (fun q hq => hq.1.2)))
          have HS1 := Aside0.mk ho
          have HB := Aside0.mk hb
          clear ho hb hg hat hHeld HC
          obtain ⟨A6, c6, rfl⟩ := Kd.S_slice HS1.out
          refine hK.out _ _ (⟨(blk_cell BO.out 0).trans rfl, (blk_cell BO.out 1).trans rfl, (blk_cell BP.out 0).trans rfl, (blk_cell BP.out 1).trans rfl⟩) (fun hHeld => ?_)
          clear hK K
          refine norm_ (a' := ?_) ?_ ?_
          rotate_left
          · show Act.put _ (some 39) _ = _
            simp only [Act.put, List.setIfInBounds_toArray, List.set_cons_zero, List.set_cons_succ, i64_w, i32_w]
            rfl
          refine pure_ (i := 10) (N := some 40) (v := ?_) (a' := ?_) #[true, true, true, true, true, true, true, true, true, true, true, false] rfl rfl (any_of HT_.out (by kernel_rfl)) (fun _ _ _ h => h) (Or.inl ⟨by rfl, ?_⟩) ?_ ?_
          rotate_left
          · intro w'
            go_simp
            with_reducible rfl
          rotate_left
          · simp only [Act.put, List.setIfInBounds_toArray, List.set_cons_zero, List.set_cons_succ, i64_w, i32_w]
            rfl
          refine last_ (i := 11) (N := none) #[true, true, true, true, true, true, true, true, true, true, true, true] rfl rfl (one_of HT_.out (by kernel_rfl)) (by decide) (fun K hK => ?_)
          refine store_blk_step (by rfl) rfl 42 (.tmp 40) (.tmp 39) rfl (off := 1) (u := .slice A6 ((ps.take x.toNat) ++ [(rd_T185 ps x)]).length c6) #[u0, .slice A6 ((ps.take x.toNat) ++ [(rd_T185 ps x)]).length c6] rfl rfl BO.out [.slice A6 ((ps.take x.toNat) ++ [(rd_T185 ps x)]).length c6] rfl (by kernel_rfl) (Nat.le_of_ble_eq_true rfl) rfl rfl ?_
          intro w7 hblk hgrw
          have HS1 := Aside0.mk (S_off HS1.out BO.out (by decide) hgrw)
          have HS0 := Aside0.mk (S_off HS0.out BO.out (by decide) hgrw)
          have HN0 : Aside0 (N0 ≤ w7.heap.size) := ⟨Nat.le_trans HN0.out hgrw.size⟩
          have BD := Aside0.mk (blk_grown BD.out hgrw (fun e => NDO.out (Option.some.inj e)))
          have BR := Aside0.mk (blk_grown BR.out hgrw (fun e => NRO.out (Option.some.inj e)))
          have HB := Aside0.mk (HB.out.grown hgrw HB.out.size (by intro q hq; cases hq; exact GOw.out))
          have BO := Aside0.mk hblk
          clear hblk hgrw hHeld
          refine hK.out _ _ ?_
          clear hK K
          refine done_ (done_of HT_.out (by kernel_rfl)) ?_
          try clear hHeld
          clear hd0 hd1 hx0 hx1
          go_wp2_with fail
          go_roundg gk
          case measure => omega
          case rel =>
            have hw1 : wrap64 (x + 1) = x + 1 := by have := HP0.out; have := HQ0.out; have := HL1.out; unfold wrap64; omega
            exact ⟨x + 1, _, by first | rfl | (rw [hw1]), ⟨by have := HXK.out; omega⟩, HS0, ⟨by rw [take_snoc (z := z185) HP0.out HQ0.out]; exact HS1.out⟩, HN0, BD, BR, BO, HB⟩
        | zero =>
          have hx : x = (ps.length : Int) := by have := HXK.out; omega
          subst hx
          have c4b2 : decide ((ps.length : Int) < (ps.length : Int)) = false := decide_eq_false (by omega)
          have hs := HS1.out
          rw [Int.toNat_natCast, List.take_length] at hs
          obtain ⟨A6, c6, rfl⟩ := Kd.S_slice HS0.out
          obtain ⟨A7, c7, rfl⟩ := Kd.S_slice hs
          have HS1 := Aside0.mk hs
          have hd2 : wr.cell? ⟨go, 0, none⟩ = some (.slice A6 safe.length c6) := (blk_cell BO.out 0).trans rfl
          have hd3 : wr.cell? ⟨go, 1, none⟩ = some (.slice A7 ps.length c7) := (blk_cell BO.out 1).trans rfl
          clear hs
          go_wp2_with (first | ((with_reducible refine gate_ (.store 44 (.tmp 2) (.tmp 42)) rfl ?_); refine store_blk rfl rfl 44 (.tmp 2) (.tmp 42) rfl (off := 0) (u := .agg #[.slice A6 safe.length c6, .slice A7 ps.length c7]) #[.slice A6 safe.length c6, .slice A7 ps.length c7] rfl rfl BR.out [.slice A6 safe.length c6, .slice A7 ps.length c7] rfl (by kernel_rfl) (Nat.le_of_ble_eq_true rfl) rfl rfl ?_; intro w10 hblk hgrw; have HS0 := Aside0.mk (S_off HS0.out BR.out (by decide) hgrw); have HS1 := Aside0.mk (S_off HS1.out BR.out (by decide) hgrw); have HB := Aside0.mk (HB.out.grown hgrw HB.out.size (by intro q hq; cases hq; exact GRw.out)); have BR := Aside0.mk hblk; clear hblk hgrw))
          refine bodyPost_ret (results_cell_row rfl _ _ gr 44 #[.slice A6 safe.length c6, .slice A7 ps.length c7] (0, 0) _ rfl BR.out Try.underlying44 rfl (by kernel_rfl)) rfl ?_
          exact ⟨_, _, _, _, rfl, ⟨fun q h1 h2 => by omega, HS0.out, HS1.out⟩, HB.out⟩
end Go.Proofs.Ytlopmffdebhpfaa.G

/-! ## CopyA -/
namespace Go.Proofs.Ytlopmffdebhpfaa.G
open Go.RowKit Go.Proofs.YtlopmffdebhpfaaW.PrintWords Go.Proofs.YtlopmffdebhpfaaW.PrintLast Go.Proofs.YtlopmffdebhpfaaW.PrintMore
set_option linter.unusedVariables false
set_option linter.unusedSimpArgs false

theorem spec_l1Copy.copyf {l : List Int} (h : l.length ≤ 1048576) : spec_l1Bytes.f l = some l := by
  unfold spec_l1Bytes.f
  rw [Option.bind_some, List.length_nil, if_pos (by omega), List.nil_append]
def spec_l1Copy.T5 : Bool × List (List Nat × List Nat) := (true, [([], []), ([0], [0]), ([], []), ([2], [2]), ([], []), ([3, 4], [3, 4]), ([5], [5]), ([6], [6]), ([7], [7]), ([1, 8, 7], [1, 8]), ([0, 1, 2, 3, 4, 5, 6, 7, 8, 9], []), ([10, 9, 9, 0, 1, 2, 3, 4, 5, 6, 7, 8, 9], [9, 10])])
def spec_l1Copy.B5 : List Nat := [0, 1, 0, 4, 0, 28, 60, 124, 252, 511, 1023, 2047]
theorem spec_l1Copy.tab5 : rtab .any (opsOf Try.f107 5) = spec_l1Copy.T5 := by kernel_rfl
theorem spec_l1Copy.bits5 : waitsOk spec_l1Copy.T5.2 spec_l1Copy.B5 = true := by kernel_rfl
def spec_l1Copy.T9 : Bool × List (List Nat × List Nat) := (true, [([], []), ([0], [0]), ([], []), ([2], [2]), ([], []), ([3, 4], [3, 4]), ([5], [5]), ([6], [6]), ([], []), ([8], [8]), ([], []), ([9, 10], [9, 10]), ([11], [11]), ([12], [12]), ([13], [13]), ([7, 14], [7, 14]), ([15], [15]), ([1, 16, 14], [1, 16]), ([0, 1, 2, 3, 4, 5, 6, 7, 8, 9, 10, 11, 12, 13, 14, 15, 16, 17], []), ([18, 17, 17, 0, 1, 2, 3, 4, 5, 6, 7, 8, 9, 10, 11, 12, 13, 14, 15, 16, 17], [17, 18])])
def spec_l1Copy.B9 : List Nat := [0, 1, 0, 4, 0, 28, 60, 124, 0, 256, 0, 1792, 3840, 7936, 16128, 32764, 65532, 131071, 262143, 524287]
theorem spec_l1Copy.tab9 : rtab .any (opsOf Try.f107 9) = spec_l1Copy.T9 := by kernel_rfl
theorem spec_l1Copy.bits9 : waitsOk spec_l1Copy.T9.2 spec_l1Copy.B9 = true := by kernel_rfl
set_option maxHeartbeats 8000000 in
set_option maxRecDepth 100000 in
theorem spec_l1Copy.apart (A0 : Option Addr) (c0 : Nat) (safe : List (List Int)) (A1 : Option Addr) (c1 : Nat) (ps : List S185) (w : World) (hr0 : Kd.C (Kd.slice 5 (Kd.int .u8)) w A0 safe.length safe) (hc0 : safe.length ≤ c0) (hr1 : Kd.C k185 w A1 ps.length ps) (hc1 : ps.length ≤ c1)
    (hl0 : safe.length ≤ 1048576) (hl1 : ps.length ≤ 1048576) (hb0 : ∀ l ∈ safe, l.length ≤ 1048576) (hb1 : ∀ p ∈ ps, p.f1.length ≤ 1048576) :
    Calls Try.prog 107 #[.agg #[.slice A0 safe.length c0, .slice A1 ps.length c1]] w fun e w' => ∃ v0 v1 : Value, ∃ P Q, e = .returned (.agg #[v0, v1]) ∧ IsDisk w' w.heap.size P Q v0 v1 safe ps ∧ Below w.heap.size w w' := by
  have hu44 := Try.underlying44
  have hu185 := Try.underlying185
  have HR0 := Aside0.mk hr0
  have HR1 := Aside0.mk hr1
  have HC0 := Aside0.mk hc0
  have HC1 := Aside0.mk hc1
  have HL0 := Aside0.mk hl0
  have HL1 := Aside0.mk hl1
  have HB0 := Aside0.mk hb0
  have HB1 := Aside0.mk hb1
  clear hr0 hr1 hc0 hc1 hl0 hl1 hb0 hb1
  go_enter Try.func107, Try.ntmps107
  go_wp2_with (first | ((with_reducible refine gate_dst (N := 1) rfl ?_); refine box_event ?hg (N := 1) ?hd (cs := #[.slice A0 safe.length c0, .slice A1 ps.length c1]) (t := 44) ?hr ?_; (case hd => rfl); (case hg => rfl); (case hr => first | (go_simp; done) | (go_simp; rfl)); intro gd hgr w1 hbox hbel; have BD := Aside0.mk hbox; have HB := Aside0.mk hbel; have hd0 : w1.cell? ⟨gd, 0, none⟩ = some (.slice A0 safe.length c0) := (blk_cell hbox 0).trans rfl; clear hbox hbel hgr) | ((with_reducible refine gate_dst (N := 2) rfl ?_); refine box_event ?hg (N := 2) ?hd (cs := #[.slice none 0 0, .slice none 0 0]) (t := 44) ?hr ?_; (case hd => rfl); (case hg => rfl); (case hr => first | (go_simp; done) | (go_simp; rfl)); intro gr hgr w2 hbox hbel; have BR := Aside0.mk hbox; have GRw : Aside0 (w.heap.size ≤ gr) := ⟨by rw [hgr]; exact HB.out.size⟩; have BD := Aside0.mk (blk_below BD.out hbel); have HB := Aside0.mk (below_step HB.out hbel); clear hbox hbel hgr) | ((with_reducible refine gate_dst (N := 3) rfl ?_); refine box_event ?hg (N := 3) ?hd (cs := #[.slice none 0 0, .slice none 0 0]) (t := 44) ?hr ?_; (case hd => rfl); (case hg => rfl); (case hr => first | (go_simp; done) | (go_simp; rfl)); intro go hgr w3 hbox hbel; have BO := Aside0.mk hbox; have GOw : Aside0 (w.heap.size ≤ go) := ⟨by rw [hgr]; exact HB.out.size⟩; have NDO : Aside0 (gd ≠ go) := ⟨by have := blk_lt BD.out; omega⟩; have NRO : Aside0 (gr ≠ go) := ⟨by have := blk_lt BR.out; omega⟩; have HSA := Aside0.mk (Kd.S_below HSA.out hbel); have HSI := Aside0.mk (Kd.S_below HSI.out hbel); have BD := Aside0.mk (blk_below BD.out hbel); have BR := Aside0.mk (blk_below BR.out hbel); have HB := Aside0.mk (below_step HB.out hbel); clear hbox hbel hgr) | ((with_reducible refine gate_dst (N := 6) rfl ?_); refine Kd.S_lit (Kd.slice 5 (Kd.int .u8)) _ 22 ?hg (N := 6) ?hd (xs := ([] : List (List Int))) (inner := []) (ok := fun _ => True) (okp := fun _ => True) ?hr ?hp (fun _ hk => hk) trivial (Below.refl _ _) (Nat.le_refl _) (by simp) ?_; (case hd => rfl); (case hg => rfl); (case hr => first | (go_simp; done) | (go_simp; rfl)); (case hp => exact (Reps.none _ _)); intro v4 w4 ho hbel _ _; obtain ⟨Aa, ca, rfl⟩ := Kd.S_slice ho; have HSA := Aside0.mk (Kd.S_lower ho HB.out.size); have BD := Aside0.mk (blk_below BD.out hbel); have BR := Aside0.mk (blk_below BR.out hbel); have HB := Aside0.mk (below_step HB.out hbel); clear ho hbel) | ((with_reducible refine gate_dst (N := 7) rfl ?_); refine Kd.S_lit k185 _ 185 ?hg (N := 7) ?hd (xs := ([] : List (S185))) (inner := []) (ok := fun _ => True) (okp := fun _ => True) ?hr ?hp (fun _ hk => hk) trivial (Below.refl _ _) (Nat.le_refl _) (by simp) ?_; (case hd => rfl); (case hg => rfl); (case hr => first | (go_simp; done) | (go_simp; rfl)); (case hp => exact (Reps.none _ _)); intro v4 w4 ho hbel _ _; obtain ⟨Ae, ce, rfl⟩ := Kd.S_slice ho; have HSI := Aside0.mk (Kd.S_lower ho HB.out.size); have HSA := Aside0.mk (Kd.S_below HSA.out hbel); have BD := Aside0.mk (blk_below BD.out hbel); have BR := Aside0.mk (blk_below BR.out hbel); have HB := Aside0.mk (below_step HB.out hbel); clear ho hbel) | ((with_reducible refine gate_ (.store 44 (.tmp 3) (.tmp 8)) rfl ?_); refine store_blk rfl rfl 44 (.tmp 3) (.tmp 8) rfl (off := 0) (u := .agg #[.slice Aa 0 ca, .slice Ae 0 ce]) #[.slice Aa 0 ca, .slice Ae 0 ce] rfl rfl BO.out [.slice Aa 0 ca, .slice Ae 0 ce] rfl (by kernel_rfl) (Nat.le_of_ble_eq_true rfl) rfl rfl ?_; intro w3b hblk hgrw; have HSA := Aside0.mk (S_off HSA.out BO.out (by decide) hgrw); have HSI := Aside0.mk (S_off HSI.out BO.out (by decide) hgrw); have BD := Aside0.mk (blk_grown BD.out hgrw (fun e => NDO.out (Option.some.inj e))); have BR := Aside0.mk (blk_grown BR.out hgrw (fun e => NRO.out (Option.some.inj e))); have HB := Aside0.mk (HB.out.grown hgrw HB.out.size (by intro q hq; cases hq; exact GOw.out)); have BO := Aside0.mk hblk; have hd0 : w3b.cell? ⟨gd, 0, none⟩ = some (.slice A0 safe.length c0) := (blk_cell BD.out 0).trans rfl; clear hblk hgrw))
  go_loopg [4] safe.length (fun gk v4 w' => ∃ (x : Int) (u0 : Value), v4 = .int .i64 x ∧ Aside0 (0 ≤ x ∧ (gk : Int) + x = (safe.length : Int)) ∧ Aside0 (Kd.S (Kd.slice 5 (Kd.int .u8)) 22 w' w.heap.size (fun _ => True) u0 (safe.take x.toNat)) ∧ Aside0 (Kd.S k185 185 w' w.heap.size (fun _ => True) (.slice Ae 0 ce) []) ∧ Aside0 (w'.heap[gd]? = some (.cells #[.slice A0 safe.length c0, .slice A1 ps.length c1] 44 (0, 0))) ∧ Aside0 (w'.heap[gr]? = some (.cells #[.slice none 0 0, .slice none 0 0] 44 (0, 0))) ∧ Aside0 (w'.heap[go]? = some (.cells #[u0, .slice Ae 0 ce] 44 (0, 0))) ∧ Aside0 (Below w.heap.size w w'))
  case atStart =>
    exact ⟨0, .slice Aa 0 ca, rfl, ⟨by omega⟩, ⟨by simpa using HSA.out⟩, HSI, BD, BR, BO, HB⟩
  case round =>
    clear HSI BD BR BO HB
    obtain ⟨x, u0, rfl, HXK, HS, HSI, BD, BR, BO, HB⟩ := hrel
    have hd0 : wr.cell? ⟨gd, 0, none⟩ = some (.slice A0 safe.length c0) := (blk_cell BD.out 0).trans rfl
    have hd1 : wr.cell? ⟨gd, 1, none⟩ = some (.slice A1 ps.length c1) := (blk_cell BD.out 1).trans rfl
    cases gk with
    | succ gk =>
      have p0 : 0 ≤ x := HXK.out.1
      have q0 : x < (safe.length : Int) := by have := HXK.out; omega
      have c4b0 : decide (x < (safe.length : Int)) = true := decide_eq_true q0
      have c4b1 : decide (0 ≤ x) = true := decide_eq_true p0
      obtain ⟨ad, A5, c5, e5, hx0, hl5, hi5⟩ := at_L2 HR0.out x p0 q0
      cases e5
      have HX0 := Aside0.mk hx0
      replace hx0 := (HB.out.cell (World.block_lt_of_cell? w _ hx0)).trans hx0
      have HI5 := Aside0.mk hi5
      have HL5 := Aside0.mk hl5
      have NF := Aside0.mk (show spec_l1Bytes.f (rd_L2 safe x) = some (rd_L2 safe x) from spec_l1Copy.copyf (HB0.out _ (getD_mem (z := []) p0 q0)))
      have HP0 := Aside0.mk p0
      have HQ0 := Aside0.mk q0
      clear hl5 hi5
      replace p0 := eq_true p0
      replace q0 := eq_true q0
      go_wp2_with fail
      refine start_ (n := 12) (S := fun w' => w'.cell? ⟨go, 0, none⟩ = some (u0) ∧ w'.cell? ⟨go, 1, none⟩ = some (.slice Ae 0 ce) ∧ w'.cell? ⟨gd, 0, none⟩ = some (.slice (some ad) safe.length c0) ∧ w'.cell? ⟨gd, 1, none⟩ = some (.slice A1 ps.length c1) ∧ w'.cell? (ad.add x.toNat) = some (.slice A5 (rd_L2 safe x).length c5)) (ds := [11]) #[false, false, false, false, false, false, false, false, false, false, false, false] (by kernel_rfl) rfl rfl (⟨(blk_cell BO.out 0).trans rfl, (blk_cell BO.out 1).trans rfl, (blk_cell BD.out 0).trans rfl, (blk_cell BD.out 1).trans rfl, hx0⟩) (fun hHeld => ?_); refine with_tabW spec_l1Copy.tab5 spec_l1Copy.bits5 (fun HT_ HW_ => ?_)
      have BD := Aside0.mk (blk_drew BD.out)
      have BR := Aside0.mk (blk_drew BR.out)
      have BO := Aside0.mk (blk_drew BO.out)
      have HB := Aside0.mk (below_drew1 HB.out)
      have HS := Aside0.mk (Kd.S_drew HS.out)
      have HSI := Aside0.mk (Kd.S_drew HSI.out)
      refine pure_ (i := 0) (N := some 16) (v := ?_) (a' := ?_) #[true, false, false, false, false, false, false, false, false, false, false, false] rfl rfl (any_of HT_.out (by kernel_rfl)) (fun _ _ _ h => h) (Or.inl ⟨by rfl, ?_⟩) ?_ ?_
      rotate_left
      · intro w'
        go_simp
        with_reducible rfl
      rotate_left
      · simp only [Act.put, List.setIfInBounds_toArray, List.set_cons_zero, List.set_cons_succ, i64_w, i32_w]
        rfl
      refine pure_ (i := 2) (N := some 18) (v := ?_) (a' := ?_) #[true, false, true, false, false, false, false, false, false, false, false, false] rfl rfl (any_of HT_.out (by kernel_rfl)) (fun _ _ _ h => h) (Or.inl ⟨by rfl, ?_⟩) ?_ ?_
      rotate_left
      · intro w'
        go_simp
        with_reducible rfl
      rotate_left
      · simp only [Act.put, List.setIfInBounds_toArray, List.set_cons_zero, List.set_cons_succ, i64_w, i32_w]
        rfl
      refine pure_ (i := 4) (N := some 20) (v := ?_) (a' := ?_) #[true, false, true, false, true, false, false, false, false, false, false, false] rfl rfl (any_of HT_.out (by kernel_rfl)) (fun _ _ _ h => h) (Or.inl ⟨by rfl, ?_⟩) ?_ ?_
      rotate_left
      · intro w'
        go_simp
        with_reducible rfl
      rotate_left
      · simp only [Act.put, List.setIfInBounds_toArray, List.set_cons_zero, List.set_cons_succ, i64_w, i32_w]
        rfl
      refine take_ (i := 1) (N := some 17) (v := ?_) (a' := ?_) #[true, true, true, false, true, false, false, false, false, false, false, false] rfl rfl (take_ofW HT_.out HW_.out (by kernel_rfl)) (fun _ _ _ h => h) (Or.inl ⟨by rfl, ?_⟩) hHeld ?_ ?_
      rotate_left
      · intro w' s0
        obtain ⟨s0, s1, s2, s3, s4⟩ := s0
        go_simp
        with_reducible rfl
      rotate_left
      · simp only [Act.put, List.setIfInBounds_toArray, List.set_cons_zero, List.set_cons_succ, i64_w, i32_w]
        rfl
      refine take_ (i := 3) (N := some 19) (v := ?_) (a' := ?_) #[true, true, true, true, true, false, false, false, false, false, false, false] rfl rfl (take_ofW HT_.out HW_.out (by kernel_rfl)) (fun _ _ _ h => h) (Or.inl ⟨by rfl, ?_⟩) hHeld ?_ ?_
      rotate_left
      · intro w' s0
        obtain ⟨s0, s1, s2, s3, s4⟩ := s0
        go_simp
        with_reducible rfl
      rotate_left
      · simp only [Act.put, List.setIfInBounds_toArray, List.set_cons_zero, List.set_cons_succ, i64_w, i32_w]
        rfl
      refine pure_ (i := 5) (N := some 21) (v := ?_) (a' := ?_) #[true, true, true, true, true, true, false, false, false, false, false, false] rfl rfl (any_of HT_.out (by kernel_rfl)) (fun _ _ _ h => h) (Or.inl ⟨by rfl, ?_⟩) ?_ ?_
      rotate_left
      · intro w'
        go_simp
        with_reducible rfl
      rotate_left
      · simp only [Act.put, List.setIfInBounds_toArray, List.set_cons_zero, List.set_cons_succ, i64_w, i32_w]
        rfl
      refine take_ (i := 6) (N := some 22) (v := ?_) (a' := ?_) #[true, true, true, true, true, true, true, false, false, false, false, false] rfl rfl (take_ofW HT_.out HW_.out (by kernel_rfl)) (fun _ _ _ h => h) (Or.inl ⟨by rfl, ?_⟩) hHeld ?_ ?_
      rotate_left
      · intro w' s0
        obtain ⟨s0, s1, s2, s3, s4⟩ := s0
        go_simp
        with_reducible rfl
      rotate_left
      · simp only [Act.put, List.setIfInBounds_toArray, List.set_cons_zero, List.set_cons_succ, i64_w, i32_w]
        rfl
      refine one_ (i := 7) (N := some 23) #[true, true, true, true, true, true, true, true, false, false, false, false] rfl rfl (one_of HT_.out (by kernel_rfl)) (by decide) (fun K hK => ?_)
      refine goes_ Try.func69 (by kernel_rfl) rfl #[.slice A5 (rd_L2 safe x).length c5] (by rfl) rfl rfl (by first | rfl | (simp only [List.map_toArray, List.map_cons, List.map_nil]; first | done | rfl)) ?_
      refine (spec_l1Bytes.calls A5 c5 (rd_L2 safe x) _ _ (Kd.C_below HI5.out HB.out) HL5.out NF.out).mono ?_
      rintro e w5 ⟨v, rfl, ho, hb⟩
      refine ⟨_, rfl, ?_⟩
      have HC := Aside0.mk (Kd.R_lower ho HB.out.size)
      have HS := Aside0.mk (Kd.S_elder' HS.out (Kd.R_base ho) hb)
      have HSI := Aside0.mk (Kd.S_below HSI.out hb)
      have BD := Aside0.mk (blk_below BD.out hb)
      have BR := Aside0.mk (blk_below BR.out hb)
      have BO := Aside0.mk (blk_below BO.out hb)
      have HB := Aside0.mk (below_step HB.out hb)
      replace hx0 := (hb.cell (World.block_lt_of_cell? _ _ hx0)).trans hx0
      clear hb ho hHeld
      obtain ⟨Ac, cc, rfl⟩ := Kd.R_slice HC.out
      refine hK.out _ _ (⟨(blk_cell BO.out 0).trans rfl, (blk_cell BO.out 1).trans rfl, (blk_cell BD.out 0).trans rfl, (blk_cell BD.out 1).trans rfl, hx0⟩) (fun hHeld => ?_)
      clear hK K
      refine norm_ (a' := ?_) ?_ ?_
      rotate_left
      · show Act.put _ (some 23) _ = _
        simp only [Act.put, List.setIfInBounds_toArray, List.set_cons_zero, List.set_cons_succ, i64_w, i32_w]
        rfl
      refine one_ (i := 8) (N := some 24) #[true, true, true, true, true, true, true, true, true, false, false, false] rfl rfl (one_of HT_.out (by kernel_rfl)) (by decide) (fun K hK => ?_)
      refine value_ (w1 := ?_) (v := ?_) (by rfl) rfl ?_ ?_
      rotate_left 2
      · go_simp
        constructor
        · rfl
        · rfl
      refine hK.out _ _ (⟨(blk_cell (blk_alloc BO.out _) 0).trans rfl, (blk_cell (blk_alloc BO.out _) 1).trans rfl, (blk_cell (blk_alloc BD.out _) 0).trans rfl, (blk_cell (blk_alloc BD.out _) 1).trans rfl, (((below_alloc (Below.refl _ _) _ : Below _ w5 _).cell (World.block_lt_of_cell? _ _ hx0)).trans hx0)⟩) (fun hHeld => ?_)
      clear hK K
      refine norm_ (a' := ?_) ?_ ?_
      rotate_left
      · show Act.put _ (some 24) _ = _
        simp only [Act.put, List.setIfInBounds_toArray, List.set_cons_zero, List.set_cons_succ, i64_w, i32_w]
        rfl
      refine one_ (i := 9) (N := some 25) #[true, true, true, true, true, true, true, true, true, true, false, false] rfl rfl (one_of HT_.out (by kernel_rfl)) (by decide) (fun K hK => ?_)
      refine Kd.S_append_step (Kd.slice 5 (Kd.int .u8)) (w0 := w) w.heap.size (by rfl) (.tmp 17) (.tmp 24) 36 22 (.slice none 0 0) 24 rfl Try.underlying36 info22 rfl (by decide) (by omega) u0 (safe.take x.toNat) (rd_L2 safe x) [.slice Ac (rd_L2 safe x).length cc] (fun _ => True) (fun q => some q = (.slice Ac (rd_L2 safe x).length cc : Value).ownBlock) rfl rfl ?aP (fun q hq => ⟨trivial, ((Kd.R_apart' HC.out (Kd.S_typed HS.out) (by decide)).1 q hq.symm).2⟩) ?aF ?aO ?aB ?aS ?aL ?_
      (case aP => exact Kd.M_row (Kd.R_tight rfl HC.out))
      (case aB => exact HB.out)
      (case aF => exact (fun _ _ => trivial))
      (case aO => exact Kd.S_mono HS.out (fun q hq => ⟨trivial, fun e_ => hq.2 e_⟩))
      (case aS => exact HB.out.size)
      (case aL => rw [List.length_take]; have := HL0.out; omega)
      intro v6 w6 ho hb hg hat
      have BD := Aside0.mk (blk_grown BD.out hg (Kd.S_ne HS.out BD.out (by decide)))
      have BR := Aside0.mk (blk_grown BR.out hg (Kd.S_ne HS.out BR.out (by decide)))
      have BO := Aside0.mk (blk_grown BO.out hg (Kd.S_ne HS.out BO.out (by decide)))
      replace hx0 := (hb.cell (World.block_lt_of_cell? w _ HX0.out)).trans HX0.out
      have HSI := Aside0.mk (Kd.S_over' HSI.out (Kd.S_typed HS.out) (by decide) hg)
      have HS := Aside0.mk ho
      have HB := Aside0.mk hb
      clear ho hb hg hat hHeld HC
      obtain ⟨A6, c6, rfl⟩ := Kd.S_slice HS.out
      refine hK.out _ _ (⟨(blk_cell BO.out 0).trans rfl, (blk_cell BO.out 1).trans rfl, (blk_cell BD.out 0).trans rfl, (blk_cell BD.out 1).trans rfl, hx0⟩) (fun hHeld => ?_)
      clear hK K
      refine norm_ (a' := ?_) ?_ ?_
      rotate_left
      · show Act.put _ (some 25) _ = _
        simp only [Act.put, List.setIfInBounds_toArray, List.set_cons_zero, List.set_cons_succ, i64_w, i32_w]
        rfl
      refine pure_ (i := 10) (N := some 26) (v := ?_) (a' := ?_) #[true, true, true, true, true, true, true, true, true, true, true, false] rfl rfl (any_of HT_.out (by kernel_rfl)) (fun _ _ _ h => h) (Or.inl ⟨by rfl, ?_⟩) ?_ ?_
      rotate_left
      · intro w'
        go_simp
        with_reducible rfl
      rotate_left
      · simp only [Act.put, List.setIfInBounds_toArray, List.set_cons_zero, List.set_cons_succ, i64_w, i32_w]
        rfl
      refine last_ (i := 11) (N := none) #[true, true, true, true, true, true, true, true, true, true, true, true] rfl rfl (one_of HT_.out (by kernel_rfl)) (by decide) (fun K hK => ?_)
      refine store_blk_step (by rfl) rfl 36 (.tmp 26) (.tmp 25) rfl (off := 0) (u := .slice A6 ((safe.take x.toNat) ++ [(rd_L2 safe x)]).length c6) #[.slice A6 ((safe.take x.toNat) ++ [(rd_L2 safe x)]).length c6, .slice Ae 0 ce] rfl rfl BO.out [.slice A6 ((safe.take x.toNat) ++ [(rd_L2 safe x)]).length c6] rfl (by kernel_rfl) (Nat.le_of_ble_eq_true rfl) rfl rfl ?_
      intro w7 hblk hgrw
      have HS := Aside0.mk (S_off HS.out BO.out (by decide) hgrw)
      have HSI := Aside0.mk (S_off HSI.out BO.out (by decide) hgrw)
      have BD := Aside0.mk (blk_grown BD.out hgrw (fun e => NDO.out (Option.some.inj e)))
      have BR := Aside0.mk (blk_grown BR.out hgrw (fun e => NRO.out (Option.some.inj e)))
      have HB := Aside0.mk (HB.out.grown hgrw HB.out.size (by intro q hq; cases hq; exact GOw.out))
      have BO := Aside0.mk hblk
      clear hblk hgrw hHeld
      refine hK.out _ _ ?_
      clear hK K
      refine done_ (done_of HT_.out (by kernel_rfl)) ?_
      try clear hHeld
      clear hd0 hd1 hx0
      go_wp2_with fail
      go_roundg gk
      case measure => omega
      case rel =>
        have hw1 : wrap64 (x + 1) = x + 1 := by have := HP0.out; have := HQ0.out; have := HL0.out; unfold wrap64; omega
        exact ⟨x + 1, _, by first | rfl | (rw [hw1]), ⟨by have := HXK.out; omega⟩, ⟨by rw [take_snoc (z := []) HP0.out HQ0.out]; exact HS.out⟩, HSI, BD, BR, BO, HB⟩
    | zero =>
      have hx : x = (safe.length : Int) := by have := HXK.out; omega
      subst hx
      have c4b0 : decide ((safe.length : Int) < (safe.length : Int)) = false := decide_eq_false (by omega)
      have hs := HS.out
      rw [Int.toNat_natCast, List.take_length] at hs
      obtain ⟨N0, hN0⟩ : ∃ N, N = wr.heap.size := ⟨_, rfl⟩
      have HS0 := Aside0.mk (Kd.S_mono (Kd.S_bound hs) (ok' := fun q => q < N0) (fun q hq => by have := hq.2.2.1; omega))
      have HS0 := Aside0.mk (Kd.S_mono (Kd.S_apart' HS0.out (Kd.S_typed HSI.out) (by decide)) (ok' := fun q => q < N0 ∧ some q ≠ (.slice Ae 0 ce : Value).ownBlock) (fun q hq => hq))
      have HS1z := Aside0.mk (Kd.S_mono (S_nil_own HSI.out) (ok' := fun q => N0 ≤ q ∨ some q = (.slice Ae 0 ce : Value).ownBlock) (fun q hq => .inr hq))
      have HN0 : Aside0 (N0 ≤ wr.heap.size) := ⟨Nat.le_of_eq hN0⟩
      clear hs hN0 HS
      go_wp2_with fail
      go_loopg [5] ps.length (fun gk v5 w' => ∃ (x : Int) (u1 : Value), v5 = .int .i64 x ∧ Aside0 (0 ≤ x ∧ (gk : Int) + x = (ps.length : Int)) ∧ Aside0 (Kd.S (Kd.slice 5 (Kd.int .u8)) 22 w' w.heap.size (fun q => q < N0 ∧ some q ≠ (.slice Ae 0 ce : Value).ownBlock) u0 safe) ∧ Aside0 (Kd.S k185 185 w' w.heap.size (fun q => N0 ≤ q ∨ some q = (.slice Ae 0 ce : Value).ownBlock) u1 (ps.take x.toNat)) ∧ Aside0 (N0 ≤ w'.heap.size) ∧ Aside0 (w'.heap[gd]? = some (.cells #[.slice A0 safe.length c0, .slice A1 ps.length c1] 44 (0, 0))) ∧ Aside0 (w'.heap[gr]? = some (.cells #[.slice none 0 0, .slice none 0 0] 44 (0, 0))) ∧ Aside0 (w'.heap[go]? = some (.cells #[u0, u1] 44 (0, 0))) ∧ Aside0 (Below w.heap.size w w'))
      case atStart =>
        exact ⟨0, .slice Ae 0 ce, rfl, ⟨by omega⟩, HS0, ⟨by simpa using HS1z.out⟩, HN0, BD, BR, BO, HB⟩
      case round =>
        clear BD BR BO HB HS0 HN0 hd0 hd1
        obtain ⟨x, u1, rfl, HXK, HS0, HS1, HN0, BD, BR, BO, HB⟩ := hrel
        have hd0 : wr.cell? ⟨gd, 0, none⟩ = some (.slice A0 safe.length c0) := (blk_cell BD.out 0).trans rfl
        have hd1 : wr.cell? ⟨gd, 1, none⟩ = some (.slice A1 ps.length c1) := (blk_cell BD.out 1).trans rfl
        cases gk with
        | succ gk =>
          have p0 : 0 ≤ x := HXK.out.1
          have q0 : x < (ps.length : Int) := by have := HXK.out; omega
          have c4b2 : decide (x < (ps.length : Int)) = true := decide_eq_true q0
          have c4b3 : decide (0 ≤ x) = true := decide_eq_true p0
          obtain ⟨ad, A5, c5, e5, hx0, hx1, hl5, hi5⟩ := at_T185 HR1.out x p0 q0
          cases e5
          have HX0 := Aside0.mk hx0
          have HX1 := Aside0.mk hx1
          replace hx0 := (HB.out.cell (World.block_lt_of_cell? w _ hx0)).trans hx0
          replace hx1 := (HB.out.cell (World.block_lt_of_cell? w _ hx1)).trans hx1
          have HI5 := Aside0.mk hi5
          have HL5 := Aside0.mk hl5
          have NF := Aside0.mk (show spec_l1Bytes.f (rd_T185 ps x).f1 = some (rd_T185 ps x).f1 from spec_l1Copy.copyf (HB1.out _ (getD_mem (z := z185) p0 q0)))
          have HP0 := Aside0.mk p0
          have HQ0 := Aside0.mk q0
          clear hl5 hi5
          replace p0 := eq_true p0
          replace q0 := eq_true q0
          go_wp2_with fail
          refine start_ (n := 20) (S := fun w' => w'.cell? ⟨go, 0, none⟩ = some (u0) ∧ w'.cell? ⟨go, 1, none⟩ = some (u1) ∧ w'.cell? ⟨gd, 0, none⟩ = some (.slice A0 safe.length c0) ∧ w'.cell? ⟨gd, 1, none⟩ = some (.slice (some ad) ps.length c1) ∧ w'.cell? (ad.add (x.toNat * 2)) = some (.int .i64 (rd_T185 ps x).f0) ∧ w'.cell? ⟨(ad.add (x.toNat * 2)).block, (ad.add (x.toNat * 2)).off + 1, none⟩ = some (.slice A5 (rd_T185 ps x).f1.length c5)) (ds := [19]) #[false, false, false, false, false, false, false, false, false, false, false, false, false, false, false, false, false, false, false, false] (by kernel_rfl) rfl rfl (⟨(blk_cell BO.out 0).trans rfl, (blk_cell BO.out 1).trans rfl, (blk_cell BD.out 0).trans rfl, (blk_cell BD.out 1).trans rfl, hx0, hx1⟩) (fun hHeld => ?_); refine with_tabW spec_l1Copy.tab9 spec_l1Copy.bits9 (fun HT_ HW_ => ?_)
          have BD := Aside0.mk (blk_drew BD.out)
          have BR := Aside0.mk (blk_drew BR.out)
          have BO := Aside0.mk (blk_drew BO.out)
          have HB := Aside0.mk (below_drew1 HB.out)
          have HS0 := Aside0.mk (Kd.S_drew HS0.out)
          have HS1 := Aside0.mk (Kd.S_drew HS1.out)
          refine pure_ (i := 0) (N := some 34) (v := ?_) (a' := ?_) #[true, false, false, false, false, false, false, false, false, false, false, false, false, false, false, false, false, false, false, false] rfl rfl (any_of HT_.out (by kernel_rfl)) (fun _ _ _ h => h) (Or.inl ⟨by rfl, ?_⟩) ?_ ?_
          rotate_left
          · intro w'
            go_simp
            with_reducible rfl
          rotate_left
          · simp only [Act.put, List.setIfInBounds_toArray, List.set_cons_zero, List.set_cons_succ, i64_w, i32_w]
            rfl
          refine pure_ (i := 2) (N := some 36) (v := ?_) (a' := ?_) #[true, false, true, false, false, false, false, false, false, false, false, false, false, false, false, false, false, false, false, false] rfl rfl (any_of HT_.out (by kernel_rfl)) (fun _ _ _ h => h) (Or.inl ⟨by rfl, ?_⟩) ?_ ?_
          rotate_left
          · intro w'
            go_simp
            with_reducible rfl
          rotate_left
          · simp only [Act.put, List.setIfInBounds_toArray, List.set_cons_zero, List.set_cons_succ, i64_w, i32_w]
            rfl
          refine pure_ (i := 4) (N := some 38) (v := ?_) (a' := ?_) #[true, false, true, false, true, false, false, false, false, false, false, false, false, false, false, false, false, false, false, false] rfl rfl (any_of HT_.out (by kernel_rfl)) (fun _ _ _ h => h) (Or.inl ⟨by rfl, ?_⟩) ?_ ?_
          rotate_left
          · intro w'
            go_simp
            with_reducible rfl
          rotate_left
          · simp only [Act.put, List.setIfInBounds_toArray, List.set_cons_zero, List.set_cons_succ, i64_w, i32_w]
            rfl
          refine pure_ (i := 8) (N := some 42) (v := ?_) (a' := ?_) #[true, false, true, false, true, false, false, false, true, false, false, false, false, false, false, false, false, false, false, false] rfl rfl (any_of HT_.out (by kernel_rfl)) (fun _ _ _ h => h) (Or.inl ⟨by rfl, ?_⟩) ?_ ?_
          rotate_left
          · intro w'
            go_simp
            with_reducible rfl
          rotate_left
          · simp only [Act.put, List.setIfInBounds_toArray, List.set_cons_zero, List.set_cons_succ, i64_w, i32_w]
            rfl
          refine pure_ (i := 10) (N := some 44) (v := ?_) (a' := ?_) #[true, false, true, false, true, false, false, false, true, false, true, false, false, false, false, false, false, false, false, false] rfl rfl (any_of HT_.out (by kernel_rfl)) (fun _ _ _ h => h) (Or.inl ⟨by rfl, ?_⟩) ?_ ?_
          rotate_left
          · intro w'
            go_simp
            with_reducible rfl
          rotate_left
          · simp only [Act.put, List.setIfInBounds_toArray, List.set_cons_zero, List.set_cons_succ, i64_w, i32_w]
            rfl
          refine take_ (i := 1) (N := some 35) (v := ?_) (a' := ?_) #[true, true, true, false, true, false, false, false, true, false, true, false, false, false, false, false, false, false, false, false] rfl rfl (take_ofW HT_.out HW_.out (by kernel_rfl)) (fun _ _ _ h => h) (Or.inl ⟨by rfl, ?_⟩) hHeld ?_ ?_
          rotate_left
          · intro w' s0
            obtain ⟨s0, s1, s2, s3, s4, s5⟩ := s0
            go_simp
            with_reducible rfl
          rotate_left
          · simp only [Act.put, List.setIfInBounds_toArray, List.set_cons_zero, List.set_cons_succ, i64_w, i32_w]
            rfl
          refine take_ (i := 3) (N := some 37) (v := ?_) (a' := ?_) #[true, true, true, true, true, false, false, false, true, false, true, false, false, false, false, false, false, false, false, false] rfl rfl (take_ofW HT_.out HW_.out (by kernel_rfl)) (fun _ _ _ h => h) (Or.inl ⟨by rfl, ?_⟩) hHeld ?_ ?_
          rotate_left
          · intro w' s0
            obtain ⟨s0, s1, s2, s3, s4, s5⟩ := s0
            go_simp
            with_reducible rfl
          rotate_left
          · simp only [Act.put, List.setIfInBounds_toArray, List.set_cons_zero, List.set_cons_succ, i64_w, i32_w]
            rfl
          refine take_ (i := 9) (N := some 43) (v := ?_) (a' := ?_) #[true, true, true, true, true, false, false, false, true, true, true, false, false, false, false, false, false, false, false, false] rfl rfl (take_ofW HT_.out HW_.out (by kernel_rfl)) (fun _ _ _ h => h) (Or.inl ⟨by rfl, ?_⟩) hHeld ?_ ?_
          rotate_left
          · intro w' s0
            obtain ⟨s0, s1, s2, s3, s4, s5⟩ := s0
            go_simp
            with_reducible rfl
          rotate_left
          · simp only [Act.put, List.setIfInBounds_toArray, List.set_cons_zero, List.set_cons_succ, i64_w, i32_w]
            rfl
          refine pure_ (i := 5) (N := some 39) (v := ?_) (a' := ?_) #[true, true, true, true, true, true, false, false, true, true, true, false, false, false, false, false, false, false, false, false] rfl rfl (any_of HT_.out (by kernel_rfl)) (fun _ _ _ h => h) (Or.inl ⟨by rfl, ?_⟩) ?_ ?_
          rotate_left
          · intro w'
            go_simp
            with_reducible rfl
          rotate_left
          · simp only [Act.put, List.setIfInBounds_toArray, List.set_cons_zero, List.set_cons_succ, i64_w, i32_w]
            rfl
          refine pure_ (i := 11) (N := some 45) (v := ?_) (a' := ?_) #[true, true, true, true, true, true, false, false, true, true, true, true, false, false, false, false, false, false, false, false] rfl rfl (any_of HT_.out (by kernel_rfl)) (fun _ _ _ h => h) (Or.inl ⟨by rfl, ?_⟩) ?_ ?_
          rotate_left
          · intro w'
            go_simp
            with_reducible rfl
          rotate_left
          · simp only [Act.put, List.setIfInBounds_toArray, List.set_cons_zero, List.set_cons_succ, i64_w, i32_w]
            rfl
          refine pure_ (i := 6) (N := some 40) (v := ?_) (a' := ?_) #[true, true, true, true, true, true, true, false, true, true, true, true, false, false, false, false, false, false, false, false] rfl rfl (any_of HT_.out (by kernel_rfl)) (fun _ _ _ h => h) (Or.inl ⟨by rfl, ?_⟩) ?_ ?_
          rotate_left
          · intro w'
            go_simp
            with_reducible rfl
          rotate_left
          · simp only [Act.put, List.setIfInBounds_toArray, List.set_cons_zero, List.set_cons_succ, i64_w, i32_w]
            rfl
          refine pure_ (i := 12) (N := some 46) (v := ?_) (a' := ?_) #[true, true, true, true, true, true, true, false, true, true, true, true, true, false, false, false, false, false, false, false] rfl rfl (any_of HT_.out (by kernel_rfl)) (fun _ _ _ h => h) (Or.inl ⟨by rfl, ?_⟩) ?_ ?_
          rotate_left
          · intro w'
            go_simp
            with_reducible rfl
          rotate_left
          · simp only [Act.put, List.setIfInBounds_toArray, List.set_cons_zero, List.set_cons_succ, i64_w, i32_w]
            rfl
          refine take_ (i := 7) (N := some 41) (v := ?_) (a' := ?_) #[true, true, true, true, true, true, true, true, true, true, true, true, true, false, false, false, false, false, false, false] rfl rfl (take_ofW HT_.out HW_.out (by kernel_rfl)) (fun _ _ _ h => h) (Or.inl ⟨by rfl, ?_⟩) hHeld ?_ ?_
          rotate_left
          · intro w' s0
            obtain ⟨s0, s1, s2, s3, s4, s5⟩ := s0
            go_simp
            with_reducible rfl
          rotate_left
          · simp only [Act.put, List.setIfInBounds_toArray, List.set_cons_zero, List.set_cons_succ, i64_w, i32_w]
            rfl
          refine take_ (i := 13) (N := some 47) (v := ?_) (a' := ?_) #[true, true, true, true, true, true, true, true, true, true, true, true, true, true, false, false, false, false, false, false] rfl rfl (take_ofW HT_.out HW_.out (by kernel_rfl)) (fun _ _ _ h => h) (Or.inl ⟨by rfl, ?_⟩) hHeld ?_ ?_
          rotate_left
          · intro w' s0
            obtain ⟨s0, s1, s2, s3, s4, s5⟩ := s0
            go_simp
            with_reducible rfl
          rotate_left
          · simp only [Act.put, List.setIfInBounds_toArray, List.set_cons_zero, List.set_cons_succ, i64_w, i32_w]
            rfl
          refine one_ (i := 14) (N := some 48) #[true, true, true, true, true, true, true, true, true, true, true, true, true, true, true, false, false, false, false, false] rfl rfl (one_of HT_.out (by kernel_rfl)) (by decide) (fun K hK => ?_)
          refine goes_ Try.func69 (by kernel_rfl) rfl #[.slice A5 (rd_T185 ps x).f1.length c5] (by rfl) rfl rfl (by first | rfl | (simp only [List.map_toArray, List.map_cons, List.map_nil]; first | done | rfl)) ?_
          refine (spec_l1Bytes.calls A5 c5 (rd_T185 ps x).f1 _ _ (Kd.C_below HI5.out HB.out) HL5.out NF.out).mono ?_
          rintro e w5 ⟨v, rfl, ho, hb⟩
          refine ⟨_, rfl, ?_⟩
          have HC := Aside0.mk (Kd.R_lower ho HB.out.size)
          have HCB : Aside0 (∀ q, v.ownBlock = some q → N0 ≤ q) := ⟨fun q hq => Nat.le_trans HN0.out (Kd.R_base ho q hq)⟩
          have HS1 := Aside0.mk (Kd.S_elder' HS1.out (Kd.R_base ho) hb)
          have HS0 := Aside0.mk (Kd.S_below HS0.out hb)
          have HN0 : Aside0 (N0 ≤ w5.heap.size) := ⟨Nat.le_trans HN0.out hb.size⟩
          have BD := Aside0.mk (blk_below BD.out hb)
          have BR := Aside0.mk (blk_below BR.out hb)
          have BO := Aside0.mk (blk_below BO.out hb)
          have HB := Aside0.mk (below_step HB.out hb)
          replace hx0 := (hb.cell (World.block_lt_of_cell? _ _ hx0)).trans hx0
          replace hx1 := (hb.cell (World.block_lt_of_cell? _ _ hx1)).trans hx1
          clear hb ho hHeld
          obtain ⟨Ac, cc, rfl⟩ := Kd.R_slice HC.out
          refine hK.out _ _ (⟨(blk_cell BO.out 0).trans rfl, (blk_cell BO.out 1).trans rfl, (blk_cell BD.out 0).trans rfl, (blk_cell BD.out 1).trans rfl, hx0, hx1⟩) (fun hHeld => ?_)
          clear hK K
          refine norm_ (a' := ?_) ?_ ?_
          rotate_left
          · show Act.put _ (some 48) _ = _
            simp only [Act.put, List.setIfInBounds_toArray, List.set_cons_zero, List.set_cons_succ, i64_w, i32_w]
            rfl
          refine pure_ (i := 15) (N := some 49) (v := ?_) (a' := ?_) #[true, true, true, true, true, true, true, true, true, true, true, true, true, true, true, true, false, false, false, false] rfl rfl (any_of HT_.out (by kernel_rfl)) (fun _ _ _ h => h) (Or.inl ⟨by rfl, ?_⟩) ?_ ?_
          rotate_left
          · intro w'
            go_simp
            with_reducible rfl
          rotate_left
          · simp only [Act.put, List.setIfInBounds_toArray, List.set_cons_zero, List.set_cons_succ, i64_w, i32_w]
            rfl
          refine one_ (i := 16) (N := some 50) #[true, true, true, true, true, true, true, true, true, true, true, true, true, true, true, true, true, false, false, false] rfl rfl (one_of HT_.out (by kernel_rfl)) (by decide) (fun K hK => ?_)
          refine value_ (w1 := ?_) (v := ?_) (by rfl) rfl ?_ ?_
          rotate_left 2
          · go_simp
            constructor
            · rfl
            · rfl
          refine hK.out _ _ (⟨(blk_cell (blk_alloc BO.out _) 0).trans rfl, (blk_cell (blk_alloc BO.out _) 1).trans rfl, (blk_cell (blk_alloc BD.out _) 0).trans rfl, (blk_cell (blk_alloc BD.out _) 1).trans rfl, (((below_alloc (Below.refl _ _) _ : Below _ w5 _).cell (World.block_lt_of_cell? _ _ hx0)).trans hx0), (((below_alloc (Below.refl _ _) _ : Below _ w5 _).cell (World.block_lt_of_cell? _ _ hx1)).trans hx1)⟩) (fun hHeld => ?_)
          clear hK K
          refine norm_ (a' := ?_) ?_ ?_
          rotate_left
          · show Act.put _ (some 50) _ = _
            simp only [Act.put, List.setIfInBounds_toArray, List.set_cons_zero, List.set_cons_succ, i64_w, i32_w]
            rfl
          refine one_ (i := 17) (N := some 51) #[true, true, true, true, true, true, true, true, true, true, true, true, true, true, true, true, true, true, false, false] rfl rfl (one_of HT_.out (by kernel_rfl)) (by decide) (fun K hK => ?_)
          refine Kd.S_append_step k185 (w0 := w) w.heap.size (by rfl) (.tmp 35) (.tmp 50) 42 185 (.agg #[(.int .i64 0), (.slice none 0 0)]) 32 rfl Try.underlying42 info185 rfl (by decide) (by omega) u1 (ps.take x.toNat) (rd_T185 ps x) [.int .i64 (rd_T185 ps x).f0, .slice Ac (rd_T185 ps x).f1.length cc] (fun q => N0 ≤ q ∨ some q = (.slice Ae 0 ce : Value).ownBlock) (fun q => some q = (.slice Ac (rd_T185 ps x).f1.length cc : Value).ownBlock) rfl rfl ?aP (fun q hq => ⟨Or.inl (HCB.out q hq.symm), ((Kd.R_apart' HC.out (Kd.S_typed HS1.out) (by decide)).1 q hq.symm).2⟩) ?aF ?aO ?aB ?aS ?aL ?_
          (case aP => exact k185_mkM _ _ _ (rd_T185 ps x) (Kd.R_tight rfl HC.out))
          (case aB => exact HB.out)
          (case aF => exact (fun q hq => Or.inl (Nat.le_trans HN0.out hq)))
          (case aO => exact Kd.S_mono HS1.out (fun q hq => ⟨hq.1, fun e_ => hq.2 e_⟩))
          (case aS => exact HB.out.size)
          (case aL => rw [List.length_take]; have := HL1.out; omega)
          intro v6 w6 ho hb hg hat
          have BD := Aside0.mk (blk_grown BD.out hg (Kd.S_ne HS1.out BD.out (by decide)))
          have BR := Aside0.mk (blk_grown BR.out hg (Kd.S_ne HS1.out BR.out (by decide)))
          have BO := Aside0.mk (blk_grown BO.out hg (Kd.S_ne HS1.out BO.out (by decide)))
          replace hx0 := (hb.cell (World.block_lt_of_cell? w _ HX0.out)).trans HX0.out
          replace hx1 := (hb.cell (World.block_lt_of_cell? w _ HX1.out)).trans HX1.out
          have HS0 := Aside0.mk (Kd.S_over' HS0.out (Kd.S_typed HS1.out) (by decide) hg)
          have HN0 : Aside0 (N0 ≤ w6.heap.size) := ⟨Nat.le_trans HN0.out hg.size⟩
          have HS1 := Aside0.mk ho
          have HB := Aside0.mk hb
          clear ho hb hg hat hHeld HC
          obtain ⟨A6, c6, rfl⟩ := Kd.S_slice HS1.out
          refine hK.out _ _ (⟨(blk_cell BO.out 0).trans rfl, (blk_cell BO.out 1).trans rfl, (blk_cell BD.out 0).trans rfl, (blk_cell BD.out 1).trans rfl, hx0, hx1⟩) (fun hHeld => ?_)
          clear hK K
          refine norm_ (a' := ?_) ?_ ?_
          rotate_left
          · show Act.put _ (some 51) _ = _
            simp only [Act.put, List.setIfInBounds_toArray, List.set_cons_zero, List.set_cons_succ, i64_w, i32_w]
            rfl
          refine pure_ (i := 18) (N := some 52) (v := ?_) (a' := ?_) #[true, true, true, true, true, true, true, true, true, true, true, true, true, true, true, true, true, true, true, false] rfl rfl (any_of HT_.out (by kernel_rfl)) (fun _ _ _ h => h) (Or.inl ⟨by rfl, ?_⟩) ?_ ?_
          rotate_left
          · intro w'
            go_simp
            with_reducible rfl
          rotate_left
          · simp only [Act.put, List.setIfInBounds_toArray, List.set_cons_zero, List.set_cons_succ, i64_w, i32_w]
            rfl
          refine last_ (i := 19) (N := none) #[true, true, true, true, true, true, true, true, true, true, true, true, true, true, true, true, true, true, true, true] rfl rfl (one_of HT_.out (by kernel_rfl)) (by decide) (fun K hK => ?_)
          refine store_blk_step (by rfl) rfl 42 (.tmp 52) (.tmp 51) rfl (off := 1) (u := .slice A6 ((ps.take x.toNat) ++ [(rd_T185 ps x)]).length c6) #[u0, .slice A6 ((ps.take x.toNat) ++ [(rd_T185 ps x)]).length c6] rfl rfl BO.out [.slice A6 ((ps.take x.toNat) ++ [(rd_T185 ps x)]).length c6] rfl (by kernel_rfl) (Nat.le_of_ble_eq_true rfl) rfl rfl ?_
          intro w7 hblk hgrw
          have HS1 := Aside0.mk (S_off HS1.out BO.out (by decide) hgrw)
          have HS0 := Aside0.mk (S_off HS0.out BO.out (by decide) hgrw)
          have HN0 : Aside0 (N0 ≤ w7.heap.size) := ⟨Nat.le_trans HN0.out hgrw.size⟩
          have BD := Aside0.mk (blk_grown BD.out hgrw (fun e => NDO.out (Option.some.inj e)))
          have BR := Aside0.mk (blk_grown BR.out hgrw (fun e => NRO.out (Option.some.inj e)))
          have HB := Aside0.mk (HB.out.grown hgrw HB.out.size (by intro q hq; cases hq; exact GOw.out))
          have BO := Aside0.mk hblk
          clear hblk hgrw hHeld
          refine hK.out _ _ ?_
          clear hK K
          refine done_ (done_of HT_.out (by kernel_rfl)) ?_
          try clear hHeld
          clear hd0 hd1 hx0 hx1
          go_wp2_with fail
          go_roundg gk
          case measure => omega
          case rel =>
            have hw1 : wrap64 (x + 1) = x + 1 := by have := HP0.out; have := HQ0.out; have := HL1.out; unfold wrap64; omega
            exact ⟨x + 1, _, by first | rfl | (rw [hw1]), ⟨by have := HXK.out; omega⟩, HS0, ⟨by rw [take_snoc (z := z185) HP0.out HQ0.out]; exact HS1.out⟩, HN0, BD, BR, BO, HB⟩
        | zero =>
          have hx : x = (ps.length : Int) := by have := HXK.out; omega
          subst hx
          have c4b2 : decide ((ps.length : Int) < (ps.length : Int)) = false := decide_eq_false (by omega)
          have hs := HS1.out
          rw [Int.toNat_natCast, List.take_length] at hs
          obtain ⟨A6, c6, rfl⟩ := Kd.S_slice HS0.out
          obtain ⟨A7, c7, rfl⟩ := Kd.S_slice hs
          have HS1 := Aside0.mk hs
          have hd2 : wr.cell? ⟨go, 0, none⟩ = some (.slice A6 safe.length c6) := (blk_cell BO.out 0).trans rfl
          have hd3 : wr.cell? ⟨go, 1, none⟩ = some (.slice A7 ps.length c7) := (blk_cell BO.out 1).trans rfl
          clear hs
          go_wp2_with (first | ((with_reducible refine gate_ (.store 44 (.tmp 2) (.tmp 53)) rfl ?_); refine store_blk rfl rfl 44 (.tmp 2) (.tmp 53) rfl (off := 0) (u := .agg #[.slice A6 safe.length c6, .slice A7 ps.length c7]) #[.slice A6 safe.length c6, .slice A7 ps.length c7] rfl rfl BR.out [.slice A6 safe.length c6, .slice A7 ps.length c7] rfl (by kernel_rfl) (Nat.le_of_ble_eq_true rfl) rfl rfl ?_; intro w10 hblk hgrw; have HS0 := Aside0.mk (S_off HS0.out BR.out (by decide) hgrw); have HS1 := Aside0.mk (S_off HS1.out BR.out (by decide) hgrw); have HB := Aside0.mk (HB.out.grown hgrw HB.out.size (by intro q hq; cases hq; exact GRw.out)); have BR := Aside0.mk hblk; clear hblk hgrw))
          refine bodyPost_ret (results_cell_row rfl _ _ gr 44 #[.slice A6 safe.length c6, .slice A7 ps.length c7] (0, 0) _ rfl BR.out Try.underlying44 rfl (by kernel_rfl)) rfl ?_
          exact ⟨_, _, _, _, rfl, ⟨fun q h1 h2 => h2.elim (fun h3 => by have := h1.1; omega) h1.2, HS0.out, HS1.out⟩, HB.out⟩
end Go.Proofs.Ytlopmffdebhpfaa.G

/-! ## G87 -/
namespace Go.Proofs.Ytlopmffdebhpfaa.G
open Go.RowKit Go.Proofs.YtlopmffdebhpfaaW.PrintWords Go.Proofs.YtlopmffdebhpfaaW.PrintLast Go.Proofs.YtlopmffdebhpfaaW.PrintMore
attribute [local go_sem] max2_int min2_int max_two min_two max_three min_three max_four min_four
set_option linter.unusedVariables false
set_option linter.unusedSimpArgs false

/-! ### impl_DiskOk: function 87 -/
mutual
def impl_DiskOk.j0 : Nat → Bool → List (List Int) → List (S185) → Option (Bool)
  | 0, _, _, _ => none
  | k + 1, x22, x402000, x402001 => if x22 = true then (some false) else (impl_DiskOk.l0 k x402000 (x402000.length : Int) 0 x402000 x402001)
def impl_DiskOk.l0 : Nat → List (List Int) → Int → Int → List (List Int) → List (S185) → Option (Bool)
  | 0, _, _, _, _, _ => none
  | k + 1, x24, x25, x26, x402000, x402001 => if x26 < x25 then (if 0 ≤ x26 then (if x26 < (x24.length : Int) then (if ((rd_L2 x24 x26).length : Int) = 64 then (impl_DiskOk.l0 k x24 x25 (wrap64 (x26 + 1)) x402000 x402001) else (some false)) else (none)) else (none)) else (impl_DiskOk.l1 k x402001 (x402001.length : Int) 0 x402000 x402001)
def impl_DiskOk.l1 : Nat → List (S185) → Int → Int → List (List Int) → List (S185) → Option (Bool)
  | 0, _, _, _, _, _ => none
  | k + 1, x35, x36, x37, x402000, x402001 => if x37 < x36 then (if 0 ≤ x37 then (if x37 < (x35.length : Int) then (if ((rd_T185 x35 x37).f0) < 0 then (some false) else (if ((rd_T185 x35 x37).f0) ≥ (x402000.length : Int) then (some false) else (if (((rd_T185 x35 x37).f1).length : Int) = 64 then (impl_DiskOk.l1 k x35 x36 (wrap64 (x37 + 1)) x402000 x402001) else (some false)))) else (none)) else (none)) else (some true)
end
def impl_DiskOk.f (k : Nat) (l0_0 : List (List Int)) (l0_1 : List (S185)) : Option (Bool) := if (l0_0.length : Int) < 1 then (impl_DiskOk.j0 k true l0_0 l0_1) else (if (l0_0.length : Int) > 4096 then (impl_DiskOk.j0 k true l0_0 l0_1) else (impl_DiskOk.j0 k (decide ((l0_1.length : Int) > 5000)) l0_0 l0_1))
set_option maxHeartbeats 8000000 in
set_option maxRecDepth 100000 in
theorem impl_DiskOk.calls (k : Nat) (A0_0 : Option Addr) (c0_0 : Nat) (l0_0 : List (List Int)) (A0_1 : Option Addr) (c0_1 : Nat) (l0_1 : List (S185)) (r : Bool) (w : World) (hr0_0 : Kd.C (Kd.slice 5 (Kd.int .u8)) w A0_0 l0_0.length l0_0) (hc0_0 : l0_0.length ≤ c0_0) (hr0_1 : Kd.C k185 w A0_1 l0_1.length l0_1) (hc0_1 : l0_1.length ≤ c0_1) (h : impl_DiskOk.f k l0_0 l0_1 = some r) :
    Calls Try.prog 87 #[.agg #[.slice A0_0 l0_0.length c0_0, .slice A0_1 l0_1.length c0_1]] w fun e w' => e = .returned (.bool r) ∧ Below w.heap.size w w' := by
  have hu44 := Try.underlying44
  have hu185 := Try.underlying185
  have HR0_0 := Aside0.mk hr0_0
  have HC0_0 := Aside0.mk hc0_0
  clear hr0_0 hc0_0
  have HR0_1 := Aside0.mk hr0_1
  have HC0_1 := Aside0.mk hc0_1
  clear hr0_1 hc0_1
  have HB := Aside0.mk (Below.refl w.heap.size w)
  have H : (if (l0_0.length : Int) < 1 then (impl_DiskOk.j0 k true l0_0 l0_1) else (if (l0_0.length : Int) > 4096 then (impl_DiskOk.j0 k true l0_0 l0_1) else (impl_DiskOk.j0 k (decide ((l0_1.length : Int) > 5000)) l0_0 l0_1))) = some r := h
  clear h
  have HC2 := Aside0.mk H
  clear H
  go_enter Try.func87, Try.ntmps87
  go_upto_region 1 with (first | ((with_reducible refine gate_dst (N := 1) rfl ?_); (try (refine gate_guard (by rfl) ?_; dsimp only)); refine box_event ?hg (N := 1) ?hd (cs := #[.slice A0_0 l0_0.length c0_0, .slice A0_1 l0_1.length c0_1]) (t := 44) ?hr ?_; (case hd => rfl); (case hg => rfl); (case hr => first | (go_simp; done) | (go_simp; rfl)); intro gb401 hg w3 hbox hb; have n0_ := Aside0.mk (below_step (by repeat (first | (with_reducible first | exact HB.out | apply below_alloc | apply pw_below_drewN | apply below_drew1) | exact HB.out)) hb); have n1_ := Aside0.mk (hbox); have n2_ := Aside0.mk ((by rw [hg]; exact (below_size (by repeat (first | (with_reducible first | exact HB.out | apply below_alloc | apply pw_below_drewN | apply below_drew1) | exact HB.out))) : w.heap.size ≤ gb401)); have n3_ := Aside0.mk ((by rw [hg]; exact (below_size (by repeat (first | (with_reducible first | exact HB.out | apply below_alloc | apply pw_below_drewN | apply below_drew1) | exact HB.out))) : w.heap.size ≤ gb401)); clear HB; have HB := n0_; have BK401 := n1_; have GW401 := n2_; have GE401 := n3_; clear n0_ n1_ n2_ n3_; clear hb hbox hg))
  (try simp only [Act.put, List.setIfInBounds_toArray, List.set_cons_zero, List.set_cons_succ])
  go_cut [22] (fun v22 wc => ∃ (kq : Nat) (x22_1 : Bool), v22 = .bool x22_1 ∧ Aside0 (impl_DiskOk.j0 kq x22_1 l0_0 l0_1 = some r) ∧ Aside0 (kq ≤ k) ∧ Aside0 (wc.heap[gb401]? = some (.cells #[(.slice A0_0 l0_0.length c0_0), (.slice A0_1 l0_1.length c0_1)] 44 (0, 0))) ∧ Aside0 (Below w.heap.size w wc))
  case first =>
    have H := HC2.out
    clear HC2
    by_cases c4 : (l0_0.length : Int) < 1
    · rw [if_pos c4] at H
      have c4b0 : decide ((l0_0.length : Int) < 1) = true := decide_eq_true c4
      have c4b1 : decide (l0_0.length < 1) = true := decide_eq_true (by omega)
      clear c4
      (first | rw [c4b0] | (simp only [i64_w, i32_w]; rw [c4b0]) | skip)
      have H' := Aside0.mk H
      clear H
      have hcz5_0 : w3.cell? ⟨gb401, 0, none⟩ = some (.slice A0_0 l0_0.length c0_0) := (blk_cell BK401.out 0).trans rfl
      have hcz5_1 : w3.cell? ⟨gb401, 1, none⟩ = some (.slice A0_1 l0_1.length c0_1) := (blk_cell BK401.out 1).trans rfl
      have hfz5_0 := blk_frozen BK401.out 0
      have hfz5_1 := blk_frozen BK401.out 1
      go_wp2
      go_meet
      case rel => exact ⟨_, (true), (by first | rfl | (simp; done) | (simp [*]; done)), H', ⟨by first | omega | exact Nat.le_refl _⟩, ⟨by (with_reducible repeat (first | refine blk_drewN ?_ _ | refine blk_drew ?_ | refine blk_alloc ?_ _)); exact BK401.out⟩, ⟨by repeat (first | (with_reducible first | exact HB.out | apply below_alloc | apply pw_below_drewN | apply below_drew1 | refine below_set ?_ GE401.out) | exact HB.out)⟩⟩
    · rw [if_neg c4] at H
      have c4b0 : decide ((l0_0.length : Int) < 1) = false := decide_eq_false c4
      have c4b1 : decide (l0_0.length < 1) = false := decide_eq_false (by omega)
      clear c4
      (first | rw [c4b0] | (simp only [i64_w, i32_w]; rw [c4b0]) | skip)
      by_cases c6 : (l0_0.length : Int) > 4096
      · rw [if_pos c6] at H
        have c6b0 : decide (4096 < (l0_0.length : Int)) = true := decide_eq_true c6
        have c6b1 : decide (4096 < l0_0.length) = true := decide_eq_true (by omega)
        clear c6
        have H' := Aside0.mk H
        clear H
        have hcz7_0 : w3.cell? ⟨gb401, 0, none⟩ = some (.slice A0_0 l0_0.length c0_0) := (blk_cell BK401.out 0).trans rfl
        have hcz7_1 : w3.cell? ⟨gb401, 1, none⟩ = some (.slice A0_1 l0_1.length c0_1) := (blk_cell BK401.out 1).trans rfl
        have hfz7_0 := blk_frozen BK401.out 0
        have hfz7_1 := blk_frozen BK401.out 1
        go_wp2
        go_meet
        case rel => exact ⟨_, (true), (by first | rfl | (simp; done) | (simp [*]; done)), H', ⟨by first | omega | exact Nat.le_refl _⟩, ⟨by (with_reducible repeat (first | refine blk_drewN ?_ _ | refine blk_drew ?_ | refine blk_alloc ?_ _)); exact BK401.out⟩, ⟨by repeat (first | (with_reducible first | exact HB.out | apply below_alloc | apply pw_below_drewN | apply below_drew1 | refine below_set ?_ GE401.out) | exact HB.out)⟩⟩
      · rw [if_neg c6] at H
        have c6b0 : decide (4096 < (l0_0.length : Int)) = false := decide_eq_false c6
        have c6b1 : decide (4096 < l0_0.length) = false := decide_eq_false (by omega)
        clear c6
        have H' := Aside0.mk H
        clear H
        have hcz8_0 : w3.cell? ⟨gb401, 0, none⟩ = some (.slice A0_0 l0_0.length c0_0) := (blk_cell BK401.out 0).trans rfl
        have hcz8_1 : w3.cell? ⟨gb401, 1, none⟩ = some (.slice A0_1 l0_1.length c0_1) := (blk_cell BK401.out 1).trans rfl
        have hfz8_0 := blk_frozen BK401.out 0
        have hfz8_1 := blk_frozen BK401.out 1
        go_wp2
        go_meet
        case rel => exact ⟨_, (decide ((l0_1.length : Int) > 5000)), (by first | rfl | (simp; done) | (simp [*]; done)), H', ⟨by first | omega | exact Nat.le_refl _⟩, ⟨by (with_reducible repeat (first | refine blk_drewN ?_ _ | refine blk_drew ?_ | refine blk_alloc ?_ _)); exact BK401.out⟩, ⟨by repeat (first | (with_reducible first | exact HB.out | apply below_alloc | apply pw_below_drewN | apply below_drew1 | refine below_set ?_ GE401.out) | exact HB.out)⟩⟩
  case rest =>
    clear HC2
    try clear p2
    try clear c4
    try clear c4b0
    try clear c4b1
    try clear c6
    try clear c6b0
    try clear c6b1
    try clear c8
    try clear hcz5_0
    try clear hcz5_1
    try clear hcz7_0
    try clear hcz7_1
    try clear hcz8_0
    try clear hcz8_1
    try clear hfz5_0
    try clear hfz5_1
    try clear hfz7_0
    try clear hfz7_1
    try clear hfz8_0
    try clear hfz8_1
    obtain ⟨kq, x22_1, rfl, HA, HJ1, BK401, HB⟩ := hcut
    cases kq with
    | zero => exact absurd HA.out (by simp [impl_DiskOk.j0])
    | succ kj1 =>
      have H := HA.out
      clear HA
      simp only [impl_DiskOk.j0] at H
      by_cases c9 : x22_1 = true
      · subst c9
        have H1 : (some false) = some r := by rw [if_pos rfl] at H; exact H
        clear H
        have H := H1
        clear H1
        obtain rfl := Option.some.inj H
        go_wp2
        go_ret
        exact ⟨by first | rfl | (simp [errW_none, errW_some] <;> rfl) | (simp [*, errW_none, errW_some] <;> rfl), by repeat (first | (with_reducible first | exact HB.out | apply below_alloc | apply pw_below_drewN | apply below_drew1 | refine below_set ?_ GE401.out) | exact HB.out)⟩
      · replace c9 := Bool.eq_false_iff.mpr c9
        subst c9
        have H1 : (impl_DiskOk.l0 kj1 l0_0 (l0_0.length : Int) 0 l0_0 l0_1) = some r := by rw [if_neg (show ¬ (false = true) by decide)] at H; exact H
        clear H
        have H := H1
        clear H1
        have H' := Aside0.mk H
        clear H
        have hcz10_0 : wc.cell? ⟨gb401, 0, none⟩ = some (.slice A0_0 l0_0.length c0_0) := (blk_cell BK401.out 0).trans rfl
        have hcz10_1 : wc.cell? ⟨gb401, 1, none⟩ = some (.slice A0_1 l0_1.length c0_1) := (blk_cell BK401.out 1).trans rfl
        have hfz10_0 := blk_frozen BK401.out 0
        have hfz10_1 := blk_frozen BK401.out 1
        go_wp2
        go_loopg [26] kj1 (fun kq v26 w' => ∃ (x26_2 : Int), v26 = .int .i64 x26_2 ∧ Aside0 (impl_DiskOk.l0 kq l0_0 (l0_0.length : Int) x26_2 l0_0 l0_1 = some r) ∧ Aside0 (kq ≤ kj1) ∧ Aside0 (w'.heap[gb401]? = some (.cells #[(.slice A0_0 l0_0.length c0_0), (.slice A0_1 l0_1.length c0_1)] 44 (0, 0))) ∧ Aside0 (Below w.heap.size w w'))
        case atStart => exact ⟨(0), (by first | rfl | (simp; done) | (simp [*]; done)), H', ⟨Nat.le_refl _⟩, ⟨by (with_reducible repeat (first | refine blk_drewN ?_ _ | refine blk_drew ?_ | refine blk_alloc ?_ _)); exact BK401.out⟩, ⟨by repeat (first | (with_reducible first | exact HB.out | apply below_alloc | apply pw_below_drewN | apply below_drew1 | refine below_set ?_ GE401.out) | exact HB.out)⟩⟩
        case round =>
          clear H'
          try clear p2
          try clear c4
          try clear c4b0
          try clear c4b1
          try clear c6
          try clear c6b0
          try clear c6b1
          try clear c8
          try clear c9
          try clear hcz10_0
          try clear hcz10_1
          try clear hcz5_0
          try clear hcz5_1
          try clear hcz7_0
          try clear hcz7_1
          try clear hcz8_0
          try clear hcz8_1
          try clear hfz10_0
          try clear hfz10_1
          try clear hfz5_0
          try clear hfz5_1
          try clear hfz7_0
          try clear hfz7_1
          try clear hfz8_0
          try clear hfz8_1
          try clear p2
          obtain ⟨x26_2, rfl, HA, HK2, BK401, HB⟩ := hrel
          cases gk with
          | zero => exact absurd HA.out (by simp [impl_DiskOk.l0])
          | succ k2 =>
            have H := HA.out
            clear HA
            simp only [impl_DiskOk.l0] at H
            by_cases c11 : x26_2 < (l0_0.length : Int)
            · rw [if_pos c11] at H
              have c11b0 : decide (x26_2 < (l0_0.length : Int)) = true := decide_eq_true c11
              clear c11
              by_cases c12 : 0 ≤ x26_2
              · rw [if_pos c12] at H
                have c12b0 : decide (0 ≤ x26_2) = true := decide_eq_true c12
                clear c12
                by_cases c13 : x26_2 < (l0_0.length : Int)
                · rw [if_pos c13] at H
                  have c13b0 : decide (x26_2 < (l0_0.length : Int)) = true := decide_eq_true c13
                  clear c13
                  by_cases c14 : ((rd_L2 l0_0 x26_2).length : Int) = 64
                  · rw [if_pos c14] at H
                    have c14b0 : (((rd_L2 l0_0 x26_2).length : Int) == 64) = true := beq_iff_eq.mpr c14
                    have c14b1 : (((rd_L2 l0_0 x26_2).length : Int) != 64) = false := bne_eq_false_iff_eq.mpr c14
                    clear c14
                    have H' := Aside0.mk H
                    clear H
                    have p402 : 0 ≤ (x26_2 : Int) := of_decide_eq_true (by first | (with_reducible assumption) | assumption)
                    have q402 : x26_2 < (l0_0.length : Int) := of_decide_eq_true (by first | (with_reducible assumption) | assumption)
                    obtain ⟨ad402, A402_0, c402_0, e402, hx402_0, hl402_0, hi402_0⟩ := at_L2 HR0_0.out x26_2 p402 q402
                    cases e402
                    replace hx402_0 := (HB.out.cell (World.block_lt_of_cell? w _ hx402_0)).trans hx402_0
                    have HR402_0 := Aside0.mk hi402_0
                    have HC402_0 := Aside0.mk hl402_0
                    clear hi402_0 hl402_0
                    replace p402 := eq_true p402
                    replace q402 := eq_true q402
                    go_wp2
                    go_roundg k2
                    case measure => have := HJ1.out; have := HK2.out; omega
                    case rel => exact ⟨(wrap64 (x26_2 + 1)), (by first | rfl | (simp; done) | (simp [*]; done)), H', ⟨by have := HJ1.out; have := HK2.out; omega⟩, ⟨by (with_reducible repeat (first | refine blk_drewN ?_ _ | refine blk_drew ?_ | refine blk_alloc ?_ _)); exact BK401.out⟩, ⟨by repeat (first | (with_reducible first | exact HB.out | apply below_alloc | apply pw_below_drewN | apply below_drew1 | refine below_set ?_ GE401.out) | exact HB.out)⟩⟩
                  · rw [if_neg c14] at H
                    have c14b0 : (((rd_L2 l0_0 x26_2).length : Int) == 64) = false := beq_eq_false_iff_ne.mpr c14
                    have c14b1 : (((rd_L2 l0_0 x26_2).length : Int) != 64) = true := bne_iff_ne.mpr c14
                    obtain rfl := Option.some.inj H
                    have p402 : 0 ≤ (x26_2 : Int) := of_decide_eq_true (by first | (with_reducible assumption) | assumption)
                    have q402 : x26_2 < (l0_0.length : Int) := of_decide_eq_true (by first | (with_reducible assumption) | assumption)
                    obtain ⟨ad402, A402_0, c402_0, e402, hx402_0, hl402_0, hi402_0⟩ := at_L2 HR0_0.out x26_2 p402 q402
                    cases e402
                    replace hx402_0 := (HB.out.cell (World.block_lt_of_cell? w _ hx402_0)).trans hx402_0
                    have HR402_0 := Aside0.mk hi402_0
                    have HC402_0 := Aside0.mk hl402_0
                    clear hi402_0 hl402_0
                    replace p402 := eq_true p402
                    replace q402 := eq_true q402
                    go_wp2
                    go_ret
                    exact ⟨by first | rfl | (simp [errW_none, errW_some] <;> rfl) | (simp [*, errW_none, errW_some] <;> rfl), by repeat (first | (with_reducible first | exact HB.out | apply below_alloc | apply pw_below_drewN | apply below_drew1 | refine below_set ?_ GE401.out) | exact HB.out)⟩
                · rw [if_neg c13] at H
                  exact absurd H (by simp)
              · rw [if_neg c12] at H
                exact absurd H (by simp)
            · rw [if_neg c11] at H
              have c11b0 : decide (x26_2 < (l0_0.length : Int)) = false := decide_eq_false c11
              clear c11
              have H' := Aside0.mk H
              clear H
              have hcz15_0 : wr.cell? ⟨gb401, 0, none⟩ = some (.slice A0_0 l0_0.length c0_0) := (blk_cell BK401.out 0).trans rfl
              have hcz15_1 : wr.cell? ⟨gb401, 1, none⟩ = some (.slice A0_1 l0_1.length c0_1) := (blk_cell BK401.out 1).trans rfl
              have hfz15_0 := blk_frozen BK401.out 0
              have hfz15_1 := blk_frozen BK401.out 1
              go_wp2
              go_loopg [37] k2 (fun kq v37 w' => ∃ (x37_3 : Int), v37 = .int .i64 x37_3 ∧ Aside0 (impl_DiskOk.l1 kq l0_1 (l0_1.length : Int) x37_3 l0_0 l0_1 = some r) ∧ Aside0 (kq ≤ k2) ∧ Aside0 (w'.heap[gb401]? = some (.cells #[(.slice A0_0 l0_0.length c0_0), (.slice A0_1 l0_1.length c0_1)] 44 (0, 0))) ∧ Aside0 (Below w.heap.size w w'))
              case atStart => exact ⟨(0), (by first | rfl | (simp; done) | (simp [*]; done)), H', ⟨Nat.le_refl _⟩, ⟨by (with_reducible repeat (first | refine blk_drewN ?_ _ | refine blk_drew ?_ | refine blk_alloc ?_ _)); exact BK401.out⟩, ⟨by repeat (first | (with_reducible first | exact HB.out | apply below_alloc | apply pw_below_drewN | apply below_drew1 | refine below_set ?_ GE401.out) | exact HB.out)⟩⟩
              case round =>
                clear H'
                try clear c1
                try clear p2
                try clear c4
                try clear c4b0
                try clear c4b1
                try clear p4
                try clear q4
                try clear hx4
                try clear c6
                try clear c6b0
                try clear c6b1
                try clear p6
                try clear c8
                try clear c9
                try clear c11
                try clear c11b0
                try clear c12
                try clear c12b0
                try clear c13
                try clear c13b0
                try clear c14
                try clear c14b0
                try clear c14b1
                try clear hcz10_0
                try clear hcz10_1
                try clear hcz15_0
                try clear hcz15_1
                try clear hcz5_0
                try clear hcz5_1
                try clear hcz7_0
                try clear hcz7_1
                try clear hcz8_0
                try clear hcz8_1
                try clear hfz10_0
                try clear hfz10_1
                try clear hfz15_0
                try clear hfz15_1
                try clear hfz5_0
                try clear hfz5_1
                try clear hfz7_0
                try clear hfz7_1
                try clear hfz8_0
                try clear hfz8_1
                try clear hx402_0
                try clear p2
                try clear p402
                try clear q402
                obtain ⟨x37_3, rfl, HA, HK3, BK401, HB⟩ := hrel
                cases gk with
                | zero => exact absurd HA.out (by simp [impl_DiskOk.l1])
                | succ k3 =>
                  have H := HA.out
                  clear HA
                  simp only [impl_DiskOk.l1] at H
                  by_cases c16 : x37_3 < (l0_1.length : Int)
                  · rw [if_pos c16] at H
                    have c16b0 : decide (x37_3 < (l0_1.length : Int)) = true := decide_eq_true c16
                    clear c16
                    by_cases c17 : 0 ≤ x37_3
                    · rw [if_pos c17] at H
                      have c17b0 : decide (0 ≤ x37_3) = true := decide_eq_true c17
                      clear c17
                      by_cases c18 : x37_3 < (l0_1.length : Int)
                      · rw [if_pos c18] at H
                        have c18b0 : decide (x37_3 < (l0_1.length : Int)) = true := decide_eq_true c18
                        clear c18
                        by_cases c19 : ((rd_T185 l0_1 x37_3).f0) < 0
                        · rw [if_pos c19] at H
                          have c19b0 : decide (((rd_T185 l0_1 x37_3).f0) < 0) = true := decide_eq_true c19
                          clear c19
                          obtain rfl := Option.some.inj H
                          have p403 : 0 ≤ (x37_3 : Int) := of_decide_eq_true (by first | (with_reducible assumption) | assumption)
                          have q403 : x37_3 < (l0_1.length : Int) := of_decide_eq_true (by first | (with_reducible assumption) | assumption)
                          obtain ⟨ad403, A403_1, c403_1, e403, hx403_0, hx403_1, hl403_1, hi403_1⟩ := at_T185 HR0_1.out x37_3 p403 q403
                          cases e403
                          replace hx403_0 := (HB.out.cell (World.block_lt_of_cell? w _ hx403_0)).trans hx403_0
                          replace hx403_1 := (HB.out.cell (World.block_lt_of_cell? w _ hx403_1)).trans hx403_1
                          have HR403_1 := Aside0.mk hi403_1
                          have HC403_1 := Aside0.mk hl403_1
                          clear hi403_1 hl403_1
                          replace p403 := eq_true p403
                          replace q403 := eq_true q403
                          go_wp2_with (first | ((with_reducible refine gate_dst (N := 6) rfl ?_); (try (refine gate_guard (by rfl) ?_; dsimp only)); refine box_event ?hg (N := 6) ?hd (cs := #[.int .i64 0, .slice none 0 0]) (t := 185) ?hr ?_; (case hd => rfl); (case hg => rfl); (case hr => first | (go_simp; done) | (go_simp; rfl)); intro gb404 hg w20 hbox hb; have n0_ := Aside0.mk (blk_below (g := gb401) (o := .cells #[.slice A0_0 l0_0.length c0_0, .slice (some ad403) l0_1.length c0_1] 44 (0, 0)) (by (with_reducible repeat (first | refine blk_drewN ?_ _ | refine blk_drew ?_ | refine blk_alloc ?_ _)); exact BK401.out) hb); have n1_ := Aside0.mk (below_step (by repeat (first | (with_reducible first | exact HB.out | apply below_alloc | apply pw_below_drewN | apply below_drew1 | refine below_set ?_ GE401.out) | exact HB.out)) hb); have n2_ := Aside0.mk (hbox); have n3_ := Aside0.mk ((by rw [hg]; exact (below_size (by repeat (first | (with_reducible first | exact HB.out | apply below_alloc | apply pw_below_drewN | apply below_drew1 | refine below_set ?_ GE401.out) | exact HB.out))) : w.heap.size ≤ gb404)); have n4_ := Aside0.mk ((by rw [hg]; exact (below_size (by repeat (first | (with_reducible first | exact HB.out | apply below_alloc | apply pw_below_drewN | apply below_drew1 | refine below_set ?_ GE401.out) | exact HB.out))) : w.heap.size ≤ gb404)); have n5_ := Aside0.mk ((by rw [hg]; exact Nat.ne_of_lt (blk_lt (g := gb401) (o := .cells #[.slice A0_0 l0_0.length c0_0, .slice (some ad403) l0_1.length c0_1] 44 (0, 0)) (by (with_reducible repeat (first | refine blk_drewN ?_ _ | refine blk_drew ?_ | refine blk_alloc ?_ _)); exact BK401.out)) : gb401 ≠ gb404)); have n6_ := Aside0.mk ((by rw [hg]; exact Nat.ne_of_gt (blk_lt (g := gb401) (o := .cells #[.slice A0_0 l0_0.length c0_0, .slice (some ad403) l0_1.length c0_1] 44 (0, 0)) (by (with_reducible repeat (first | refine blk_drewN ?_ _ | refine blk_drew ?_ | refine blk_alloc ?_ _)); exact BK401.out)) : gb404 ≠ gb401)); clear BK401; clear HB; have BK401 := n0_; have HB := n1_; have BK404 := n2_; have GW404 := n3_; have GE404 := n4_; have NB401_404 := n5_; have NB404_401 := n6_; clear n0_ n1_ n2_ n3_ n4_ n5_ n6_; clear hb hbox hg; have hnb21 := NB404_401.out; have hnc21 := NB401_404.out; have hcz22_0 : w20.cell? ⟨gb404, 0, none⟩ = some (.int .i64 0) := (blk_cell BK404.out 0).trans rfl; have hcz22_1 : w20.cell? ⟨gb404, 1, none⟩ = some (.slice none 0 0) := (blk_cell BK404.out 1).trans rfl; have hfz22_0 := blk_frozen BK404.out 0; have hfz22_1 := blk_frozen BK404.out 1))
                          go_ret
                          exact ⟨by first | rfl | (simp [errW_none, errW_some] <;> rfl) | (simp [*, errW_none, errW_some] <;> rfl), by repeat (first | (with_reducible first | exact HB.out | apply below_alloc | apply pw_below_drewN | apply below_drew1 | refine below_set ?_ GE401.out | refine below_set ?_ GE404.out) | exact HB.out)⟩
                        · rw [if_neg c19] at H
                          have c19b0 : decide (((rd_T185 l0_1 x37_3).f0) < 0) = false := decide_eq_false c19
                          clear c19
                          by_cases c23 : ((rd_T185 l0_1 x37_3).f0) ≥ (l0_0.length : Int)
                          · rw [if_pos c23] at H
                            have c23b0 : decide ((l0_0.length : Int) ≤ ((rd_T185 l0_1 x37_3).f0)) = true := decide_eq_true c23
                            clear c23
                            obtain rfl := Option.some.inj H
                            have p403 : 0 ≤ (x37_3 : Int) := of_decide_eq_true (by first | (with_reducible assumption) | assumption)
                            have q403 : x37_3 < (l0_1.length : Int) := of_decide_eq_true (by first | (with_reducible assumption) | assumption)
                            obtain ⟨ad403, A403_1, c403_1, e403, hx403_0, hx403_1, hl403_1, hi403_1⟩ := at_T185 HR0_1.out x37_3 p403 q403
                            cases e403
                            replace hx403_0 := (HB.out.cell (World.block_lt_of_cell? w _ hx403_0)).trans hx403_0
                            replace hx403_1 := (HB.out.cell (World.block_lt_of_cell? w _ hx403_1)).trans hx403_1
                            have HR403_1 := Aside0.mk hi403_1
                            have HC403_1 := Aside0.mk hl403_1
                            clear hi403_1 hl403_1
                            replace p403 := eq_true p403
                            replace q403 := eq_true q403
                            go_wp2_with (first | ((with_reducible refine gate_dst (N := 6) rfl ?_); (try (refine gate_guard (by rfl) ?_; dsimp only)); refine box_event ?hg (N := 6) ?hd (cs := #[.int .i64 0, .slice none 0 0]) (t := 185) ?hr ?_; (case hd => rfl); (case hg => rfl); (case hr => first | (go_simp; done) | (go_simp; rfl)); intro gb404 hg w24 hbox hb; have n0_ := Aside0.mk (blk_below (g := gb401) (o := .cells #[.slice A0_0 l0_0.length c0_0, .slice (some ad403) l0_1.length c0_1] 44 (0, 0)) (by (with_reducible repeat (first | refine blk_drewN ?_ _ | refine blk_drew ?_ | refine blk_alloc ?_ _)); exact BK401.out) hb); have n1_ := Aside0.mk (below_step (by repeat (first | (with_reducible first | exact HB.out | apply below_alloc | apply pw_below_drewN | apply below_drew1 | refine below_set ?_ GE401.out) | exact HB.out)) hb); have n2_ := Aside0.mk (hbox); have n3_ := Aside0.mk ((by rw [hg]; exact (below_size (by repeat (first | (with_reducible first | exact HB.out | apply below_alloc | apply pw_below_drewN | apply below_drew1 | refine below_set ?_ GE401.out) | exact HB.out))) : w.heap.size ≤ gb404)); have n4_ := Aside0.mk ((by rw [hg]; exact (below_size (by repeat (first | (with_reducible first | exact HB.out | apply below_alloc | apply pw_below_drewN | apply below_drew1 | refine below_set ?_ GE401.out) | exact HB.out))) : w.heap.size ≤ gb404)); have n5_ := Aside0.mk ((by rw [hg]; exact Nat.ne_of_lt (blk_lt (g := gb401) (o := .cells #[.slice A0_0 l0_0.length c0_0, .slice (some ad403) l0_1.length c0_1] 44 (0, 0)) (by (with_reducible repeat (first | refine blk_drewN ?_ _ | refine blk_drew ?_ | refine blk_alloc ?_ _)); exact BK401.out)) : gb401 ≠ gb404)); have n6_ := Aside0.mk ((by rw [hg]; exact Nat.ne_of_gt (blk_lt (g := gb401) (o := .cells #[.slice A0_0 l0_0.length c0_0, .slice (some ad403) l0_1.length c0_1] 44 (0, 0)) (by (with_reducible repeat (first | refine blk_drewN ?_ _ | refine blk_drew ?_ | refine blk_alloc ?_ _)); exact BK401.out)) : gb404 ≠ gb401)); clear BK401; clear HB; have BK401 := n0_; have HB := n1_; have BK404 := n2_; have GW404 := n3_; have GE404 := n4_; have NB401_404 := n5_; have NB404_401 := n6_; clear n0_ n1_ n2_ n3_ n4_ n5_ n6_; clear hb hbox hg; have hnb25 := NB404_401.out; have hnc25 := NB401_404.out; have hcz26_0 : w24.cell? ⟨gb404, 0, none⟩ = some (.int .i64 0) := (blk_cell BK404.out 0).trans rfl; have hcz26_1 : w24.cell? ⟨gb404, 1, none⟩ = some (.slice none 0 0) := (blk_cell BK404.out 1).trans rfl; have hfz26_0 := blk_frozen BK404.out 0; have hfz26_1 := blk_frozen BK404.out 1; have hcz27_0 : w24.cell? ⟨gb401, 0, none⟩ = some (.slice A0_0 l0_0.length c0_0) := (blk_cell BK401.out 0).trans rfl; have hcz27_1 : w24.cell? ⟨gb401, 1, none⟩ = some (.slice (some ad403) l0_1.length c0_1) := (blk_cell BK401.out 1).trans rfl; have hfz27_0 := blk_frozen BK401.out 0; have hfz27_1 := blk_frozen BK401.out 1))
                            go_ret
                            exact ⟨by first | rfl | (simp [errW_none, errW_some] <;> rfl) | (simp [*, errW_none, errW_some] <;> rfl), by repeat (first | (with_reducible first | exact HB.out | apply below_alloc | apply pw_below_drewN | apply below_drew1 | refine below_set ?_ GE401.out | refine below_set ?_ GE404.out) | exact HB.out)⟩
                          · rw [if_neg c23] at H
                            have c23b0 : decide ((l0_0.length : Int) ≤ ((rd_T185 l0_1 x37_3).f0)) = false := decide_eq_false c23
                            clear c23
                            by_cases c28 : (((rd_T185 l0_1 x37_3).f1).length : Int) = 64
                            · rw [if_pos c28] at H
                              have c28b0 : ((((rd_T185 l0_1 x37_3).f1).length : Int) == 64) = true := beq_iff_eq.mpr c28
                              have c28b1 : ((((rd_T185 l0_1 x37_3).f1).length : Int) != 64) = false := bne_eq_false_iff_eq.mpr c28
                              clear c28
                              have H' := Aside0.mk H
                              clear H
                              have p403 : 0 ≤ (x37_3 : Int) := of_decide_eq_true (by first | (with_reducible assumption) | assumption)
                              have q403 : x37_3 < (l0_1.length : Int) := of_decide_eq_true (by first | (with_reducible assumption) | assumption)
                              obtain ⟨ad403, A403_1, c403_1, e403, hx403_0, hx403_1, hl403_1, hi403_1⟩ := at_T185 HR0_1.out x37_3 p403 q403
                              cases e403
                              replace hx403_0 := (HB.out.cell (World.block_lt_of_cell? w _ hx403_0)).trans hx403_0
                              replace hx403_1 := (HB.out.cell (World.block_lt_of_cell? w _ hx403_1)).trans hx403_1
                              have HR403_1 := Aside0.mk hi403_1
                              have HC403_1 := Aside0.mk hl403_1
                              clear hi403_1 hl403_1
                              replace p403 := eq_true p403
                              replace q403 := eq_true q403
                              go_wp2_with (first | ((with_reducible refine gate_dst (N := 6) rfl ?_); (try (refine gate_guard (by rfl) ?_; dsimp only)); refine box_event ?hg (N := 6) ?hd (cs := #[.int .i64 0, .slice none 0 0]) (t := 185) ?hr ?_; (case hd => rfl); (case hg => rfl); (case hr => first | (go_simp; done) | (go_simp; rfl)); intro gb404 hg w29 hbox hb; have n0_ := Aside0.mk (blk_below (g := gb401) (o := .cells #[.slice A0_0 l0_0.length c0_0, .slice (some ad403) l0_1.length c0_1] 44 (0, 0)) (by (with_reducible repeat (first | refine blk_drewN ?_ _ | refine blk_drew ?_ | refine blk_alloc ?_ _)); exact BK401.out) hb); have n1_ := Aside0.mk (below_step (by repeat (first | (with_reducible first | exact HB.out | apply below_alloc | apply pw_below_drewN | apply below_drew1 | refine below_set ?_ GE401.out) | exact HB.out)) hb); have n2_ := Aside0.mk (hbox); have n3_ := Aside0.mk ((by rw [hg]; exact (below_size (by repeat (first | (with_reducible first | exact HB.out | apply below_alloc | apply pw_below_drewN | apply below_drew1 | refine below_set ?_ GE401.out) | exact HB.out))) : w.heap.size ≤ gb404)); have n4_ := Aside0.mk ((by rw [hg]; exact (below_size (by repeat (first | (with_reducible first | exact HB.out | apply below_alloc | apply pw_below_drewN | apply below_drew1 | refine below_set ?_ GE401.out) | exact HB.out))) : w.heap.size ≤ gb404)); have n5_ := Aside0.mk ((by rw [hg]; exact Nat.ne_of_lt (blk_lt (g := gb401) (o := .cells #[.slice A0_0 l0_0.length c0_0, .slice (some ad403) l0_1.length c0_1] 44 (0, 0)) (by (with_reducible repeat (first | refine blk_drewN ?_ _ | refine blk_drew ?_ | refine blk_alloc ?_ _)); exact BK401.out)) : gb401 ≠ gb404)); have n6_ := Aside0.mk ((by rw [hg]; exact Nat.ne_of_gt (blk_lt (g := gb401) (o := .cells #[.slice A0_0 l0_0.length c0_0, .slice (some ad403) l0_1.length c0_1] 44 (0, 0)) (by (with_reducible repeat (first | refine blk_drewN ?_ _ | refine blk_drew ?_ | refine blk_alloc ?_ _)); exact BK401.out)) : gb404 ≠ gb401)); clear BK401; clear HB; have BK401 := n0_; have HB := n1_; have BK404 := n2_; have GW404 := n3_; have GE404 := n4_; have NB401_404 := n5_; have NB404_401 := n6_; clear n0_ n1_ n2_ n3_ n4_ n5_ n6_; clear hb hbox hg; have hnb30 := NB404_401.out; have hnc30 := NB401_404.out; have hcz31_0 : w29.cell? ⟨gb404, 0, none⟩ = some (.int .i64 0) := (blk_cell BK404.out 0).trans rfl; have hcz31_1 : w29.cell? ⟨gb404, 1, none⟩ = some (.slice none 0 0) := (blk_cell BK404.out 1).trans rfl; have hfz31_0 := blk_frozen BK404.out 0; have hfz31_1 := blk_frozen BK404.out 1; have hcz32_0 : w29.cell? ⟨gb401, 0, none⟩ = some (.slice A0_0 l0_0.length c0_0) := (blk_cell BK401.out 0).trans rfl; have hcz32_1 : w29.cell? ⟨gb401, 1, none⟩ = some (.slice (some ad403) l0_1.length c0_1) := (blk_cell BK401.out 1).trans rfl; have hfz32_0 := blk_frozen BK401.out 0; have hfz32_1 := blk_frozen BK401.out 1))
                              go_roundg k3
                              case measure => have := HJ1.out; have := HK2.out; have := HK3.out; omega
                              case rel => exact ⟨(wrap64 (x37_3 + 1)), (by first | rfl | (simp; done) | (simp [*]; done)), H', ⟨by have := HJ1.out; have := HK2.out; have := HK3.out; omega⟩, ⟨by (with_reducible repeat (first | refine blk_drewN ?_ _ | refine blk_drew ?_ | refine blk_alloc ?_ _)); refine blk_far ?_ NB401_404.out _; (with_reducible repeat (first | refine blk_drewN ?_ _ | refine blk_drew ?_ | refine blk_alloc ?_ _)); refine blk_far ?_ NB401_404.out _; (with_reducible repeat (first | refine blk_drewN ?_ _ | refine blk_drew ?_ | refine blk_alloc ?_ _)); exact BK401.out⟩, ⟨by repeat (first | (with_reducible first | exact HB.out | apply below_alloc | apply pw_below_drewN | apply below_drew1 | refine below_set ?_ GE401.out | refine below_set ?_ GE404.out) | exact HB.out)⟩⟩
                            · rw [if_neg c28] at H
                              have c28b0 : ((((rd_T185 l0_1 x37_3).f1).length : Int) == 64) = false := beq_eq_false_iff_ne.mpr c28
                              have c28b1 : ((((rd_T185 l0_1 x37_3).f1).length : Int) != 64) = true := bne_iff_ne.mpr c28
                              obtain rfl := Option.some.inj H
                              have p403 : 0 ≤ (x37_3 : Int) := of_decide_eq_true (by first | (with_reducible assumption) | assumption)
                              have q403 : x37_3 < (l0_1.length : Int) := of_decide_eq_true (by first | (with_reducible assumption) | assumption)
                              obtain ⟨ad403, A403_1, c403_1, e403, hx403_0, hx403_1, hl403_1, hi403_1⟩ := at_T185 HR0_1.out x37_3 p403 q403
                              cases e403
                              replace hx403_0 := (HB.out.cell (World.block_lt_of_cell? w _ hx403_0)).trans hx403_0
                              replace hx403_1 := (HB.out.cell (World.block_lt_of_cell? w _ hx403_1)).trans hx403_1
                              have HR403_1 := Aside0.mk hi403_1
                              have HC403_1 := Aside0.mk hl403_1
                              clear hi403_1 hl403_1
                              replace p403 := eq_true p403
                              replace q403 := eq_true q403
                              go_wp2_with (first | ((with_reducible refine gate_dst (N := 6) rfl ?_); (try (refine gate_guard (by rfl) ?_; dsimp only)); refine box_event ?hg (N := 6) ?hd (cs := #[.int .i64 0, .slice none 0 0]) (t := 185) ?hr ?_; (case hd => rfl); (case hg => rfl); (case hr => first | (go_simp; done) | (go_simp; rfl)); intro gb404 hg w33 hbox hb; have n0_ := Aside0.mk (blk_below (g := gb401) (o := .cells #[.slice A0_0 l0_0.length c0_0, .slice (some ad403) l0_1.length c0_1] 44 (0, 0)) (by (with_reducible repeat (first | refine blk_drewN ?_ _ | refine blk_drew ?_ | refine blk_alloc ?_ _)); exact BK401.out) hb); have n1_ := Aside0.mk (below_step (by repeat (first | (with_reducible first | exact HB.out | apply below_alloc | apply pw_below_drewN | apply below_drew1 | refine below_set ?_ GE401.out) | exact HB.out)) hb); have n2_ := Aside0.mk (hbox); have n3_ := Aside0.mk ((by rw [hg]; exact (below_size (by repeat (first | (with_reducible first | exact HB.out | apply below_alloc | apply pw_below_drewN | apply below_drew1 | refine below_set ?_ GE401.out) | exact HB.out))) : w.heap.size ≤ gb404)); have n4_ := Aside0.mk ((by rw [hg]; exact (below_size (by repeat (first | (with_reducible first | exact HB.out | apply below_alloc | apply pw_below_drewN | apply below_drew1 | refine below_set ?_ GE401.out) | exact HB.out))) : w.heap.size ≤ gb404)); have n5_ := Aside0.mk ((by rw [hg]; exact Nat.ne_of_lt (blk_lt (g := gb401) (o := .cells #[.slice A0_0 l0_0.length c0_0, .slice (some ad403) l0_1.length c0_1] 44 (0, 0)) (by (with_reducible repeat (first | refine blk_drewN ?_ _ | refine blk_drew ?_ | refine blk_alloc ?_ _)); exact BK401.out)) : gb401 ≠ gb404)); have n6_ := Aside0.mk ((by rw [hg]; exact Nat.ne_of_gt (blk_lt (g := gb401) (o := .cells #[.slice A0_0 l0_0.length c0_0, .slice (some ad403) l0_1.length c0_1] 44 (0, 0)) (by (with_reducible repeat (first | refine blk_drewN ?_ _ | refine blk_drew ?_ | refine blk_alloc ?_ _)); exact BK401.out)) : gb404 ≠ gb401)); clear BK401; clear HB; have BK401 := n0_; have HB := n1_; have BK404 := n2_; have GW404 := n3_; have GE404 := n4_; have NB401_404 := n5_; have NB404_401 := n6_; clear n0_ n1_ n2_ n3_ n4_ n5_ n6_; clear hb hbox hg; have hnb34 := NB404_401.out; have hnc34 := NB401_404.out; have hcz35_0 : w33.cell? ⟨gb404, 0, none⟩ = some (.int .i64 0) := (blk_cell BK404.out 0).trans rfl; have hcz35_1 : w33.cell? ⟨gb404, 1, none⟩ = some (.slice none 0 0) := (blk_cell BK404.out 1).trans rfl; have hfz35_0 := blk_frozen BK404.out 0; have hfz35_1 := blk_frozen BK404.out 1; have hcz36_0 : w33.cell? ⟨gb401, 0, none⟩ = some (.slice A0_0 l0_0.length c0_0) := (blk_cell BK401.out 0).trans rfl; have hcz36_1 : w33.cell? ⟨gb401, 1, none⟩ = some (.slice (some ad403) l0_1.length c0_1) := (blk_cell BK401.out 1).trans rfl; have hfz36_0 := blk_frozen BK401.out 0; have hfz36_1 := blk_frozen BK401.out 1))
                              go_ret
                              exact ⟨by first | rfl | (simp [errW_none, errW_some] <;> rfl) | (simp [*, errW_none, errW_some] <;> rfl), by repeat (first | (with_reducible first | exact HB.out | apply below_alloc | apply pw_below_drewN | apply below_drew1 | refine below_set ?_ GE401.out | refine below_set ?_ GE404.out) | exact HB.out)⟩
                      · rw [if_neg c18] at H
                        exact absurd H (by simp)
                    · rw [if_neg c17] at H
                      exact absurd H (by simp)
                  · rw [if_neg c16] at H
                    have c16b0 : decide (x37_3 < (l0_1.length : Int)) = false := decide_eq_false c16
                    clear c16
                    obtain rfl := Option.some.inj H
                    go_wp2
                    go_ret
                    exact ⟨by first | rfl | (simp [errW_none, errW_some] <;> rfl) | (simp [*, errW_none, errW_some] <;> rfl), by repeat (first | (with_reducible first | exact HB.out | apply below_alloc | apply pw_below_drewN | apply below_drew1 | refine below_set ?_ GE401.out) | exact HB.out)⟩

end Go.Proofs.Ytlopmffdebhpfaa.G

/-! ## G83 -/
namespace Go.Proofs.Ytlopmffdebhpfaa.G
open Go.RowKit Go.Proofs.YtlopmffdebhpfaaW.PrintWords Go.Proofs.YtlopmffdebhpfaaW.PrintLast Go.Proofs.YtlopmffdebhpfaaW.PrintMore
attribute [local go_sem] max2_int min2_int max_two min_two max_three min_three max_four min_four
set_option linter.unusedVariables false
set_option linter.unusedSimpArgs false

/-! ### spec_DiskOk: function 83 -/
mutual
def spec_DiskOk.j0 : Nat → Int → Bool → List (List Int) → List (S185) → Option (Bool)
  | 0, _, _, _, _ => none
  | k + 1, x3, x21, x344000, x344001 => if x21 = true then (some false) else (spec_DiskOk.l0 k x3 0 x344000 x344001)
def spec_DiskOk.l0 : Nat → Int → Int → List (List Int) → List (S185) → Option (Bool)
  | 0, _, _, _, _ => none
  | k + 1, x3, x4, x344000, x344001 => if x4 < x3 then (if 0 ≤ x4 then (if x4 < (x344000.length : Int) then (if ((rd_L2 x344000 x4).length : Int) = 64 then (spec_DiskOk.l0 k x3 (wrap64 (x4 + 1)) x344000 x344001) else (some false)) else (none)) else (none)) else (spec_DiskOk.l1 k x3 0 x344000 x344001)
def spec_DiskOk.l1 : Nat → Int → Int → List (List Int) → List (S185) → Option (Bool)
  | 0, _, _, _, _ => none
  | k + 1, x3, x5, x344000, x344001 => if x5 < (x344001.length : Int) then (if 0 ≤ x5 then (if ((rd_T185 x344001 x5).f0) < 0 then (some false) else (if ((rd_T185 x344001 x5).f0) ≥ x3 then (some false) else (if (((rd_T185 x344001 x5).f1).length : Int) = 64 then (spec_DiskOk.l1 k x3 (wrap64 (x5 + 1)) x344000 x344001) else (some false)))) else (none)) else (some true)
end
def spec_DiskOk.f (k : Nat) (l0_0 : List (List Int)) (l0_1 : List (S185)) : Option (Bool) := if (l0_0.length : Int) < 1 then (spec_DiskOk.j0 k (l0_0.length : Int) true l0_0 l0_1) else (if (l0_0.length : Int) > 4096 then (spec_DiskOk.j0 k (l0_0.length : Int) true l0_0 l0_1) else (spec_DiskOk.j0 k (l0_0.length : Int) (decide ((l0_1.length : Int) > 5000)) l0_0 l0_1))
set_option maxHeartbeats 8000000 in
set_option maxRecDepth 100000 in
theorem spec_DiskOk.calls (k : Nat) (A0_0 : Option Addr) (c0_0 : Nat) (l0_0 : List (List Int)) (A0_1 : Option Addr) (c0_1 : Nat) (l0_1 : List (S185)) (r : Bool) (w : World) (hr0_0 : Kd.C (Kd.slice 5 (Kd.int .u8)) w A0_0 l0_0.length l0_0) (hc0_0 : l0_0.length ≤ c0_0) (hr0_1 : Kd.C k185 w A0_1 l0_1.length l0_1) (hc0_1 : l0_1.length ≤ c0_1) (h : spec_DiskOk.f k l0_0 l0_1 = some r) :
    Calls Try.prog 83 #[.agg #[.slice A0_0 l0_0.length c0_0, .slice A0_1 l0_1.length c0_1]] w fun e w' => e = .returned (.bool r) ∧ Below w.heap.size w w' := by
  have hu44 := Try.underlying44
  have hu185 := Try.underlying185
  have HR0_0 := Aside0.mk hr0_0
  have HC0_0 := Aside0.mk hc0_0
  clear hr0_0 hc0_0
  have HR0_1 := Aside0.mk hr0_1
  have HC0_1 := Aside0.mk hc0_1
  clear hr0_1 hc0_1
  have HB := Aside0.mk (Below.refl w.heap.size w)
  have H : (if (l0_0.length : Int) < 1 then (spec_DiskOk.j0 k (l0_0.length : Int) true l0_0 l0_1) else (if (l0_0.length : Int) > 4096 then (spec_DiskOk.j0 k (l0_0.length : Int) true l0_0 l0_1) else (spec_DiskOk.j0 k (l0_0.length : Int) (decide ((l0_1.length : Int) > 5000)) l0_0 l0_1))) = some r := h
  clear h
  have HC2 := Aside0.mk H
  clear H
  go_enter Try.func83, Try.ntmps83
  go_upto_region 2 with (first | ((with_reducible refine gate_dst (N := 1) rfl ?_); (try (refine gate_guard (by rfl) ?_; dsimp only)); refine box_event ?hg (N := 1) ?hd (cs := #[.slice A0_0 l0_0.length c0_0, .slice A0_1 l0_1.length c0_1]) (t := 44) ?hr ?_; (case hd => rfl); (case hg => rfl); (case hr => first | (go_simp; done) | (go_simp; rfl)); intro gb343 hg w3 hbox hb; have n0_ := Aside0.mk (below_step (by repeat (first | (with_reducible first | exact HB.out | apply below_alloc | apply pw_below_drewN | apply below_drew1) | exact HB.out)) hb); have n1_ := Aside0.mk (hbox); have n2_ := Aside0.mk ((by rw [hg]; exact (below_size (by repeat (first | (with_reducible first | exact HB.out | apply below_alloc | apply pw_below_drewN | apply below_drew1) | exact HB.out))) : w.heap.size ≤ gb343)); have n3_ := Aside0.mk ((by rw [hg]; exact (below_size (by repeat (first | (with_reducible first | exact HB.out | apply below_alloc | apply pw_below_drewN | apply below_drew1) | exact HB.out))) : w.heap.size ≤ gb343)); clear HB; have HB := n0_; have BK343 := n1_; have GW343 := n2_; have GE343 := n3_; clear n0_ n1_ n2_ n3_; clear hb hbox hg; have hcz4_0 : w3.cell? ⟨gb343, 0, none⟩ = some (.slice A0_0 l0_0.length c0_0) := (blk_cell BK343.out 0).trans rfl; have hcz4_1 : w3.cell? ⟨gb343, 1, none⟩ = some (.slice A0_1 l0_1.length c0_1) := (blk_cell BK343.out 1).trans rfl; have hfz4_0 := blk_frozen BK343.out 0; have hfz4_1 := blk_frozen BK343.out 1))
  (try simp only [Act.put, List.setIfInBounds_toArray, List.set_cons_zero, List.set_cons_succ])
  go_cut [21] (fun v21 wc => ∃ (kq : Nat) (x21_1 : Bool), v21 = .bool x21_1 ∧ Aside0 (spec_DiskOk.j0 kq (l0_0.length : Int) x21_1 l0_0 l0_1 = some r) ∧ Aside0 (kq ≤ k) ∧ Aside0 (wc.heap[gb343]? = some (.cells #[(.slice A0_0 l0_0.length c0_0), (.slice A0_1 l0_1.length c0_1)] 44 (0, 0))) ∧ Aside0 (Below w.heap.size w wc))
  case first =>
    have H := HC2.out
    clear HC2
    by_cases c5 : (l0_0.length : Int) < 1
    · rw [if_pos c5] at H
      have c5b0 : decide ((l0_0.length : Int) < 1) = true := decide_eq_true c5
      have c5b1 : decide (l0_0.length < 1) = true := decide_eq_true (by omega)
      clear c5
      (first | rw [c5b0] | (simp only [i64_w, i32_w]; rw [c5b0]) | skip)
      have H' := Aside0.mk H
      clear H
      go_wp2
      go_meet
      case rel => exact ⟨_, (true), (by first | rfl | (simp; done) | (simp [*]; done)), H', ⟨by first | omega | exact Nat.le_refl _⟩, ⟨by (with_reducible repeat (first | refine blk_drewN ?_ _ | refine blk_drew ?_ | refine blk_alloc ?_ _)); exact BK343.out⟩, ⟨by repeat (first | (with_reducible first | exact HB.out | apply below_alloc | apply pw_below_drewN | apply below_drew1 | refine below_set ?_ GE343.out) | exact HB.out)⟩⟩
    · rw [if_neg c5] at H
      have c5b0 : decide ((l0_0.length : Int) < 1) = false := decide_eq_false c5
      have c5b1 : decide (l0_0.length < 1) = false := decide_eq_false (by omega)
      clear c5
      (first | rw [c5b0] | (simp only [i64_w, i32_w]; rw [c5b0]) | skip)
      by_cases c6 : (l0_0.length : Int) > 4096
      · rw [if_pos c6] at H
        have c6b0 : decide (4096 < (l0_0.length : Int)) = true := decide_eq_true c6
        have c6b1 : decide (4096 < l0_0.length) = true := decide_eq_true (by omega)
        clear c6
        have H' := Aside0.mk H
        clear H
        go_wp2
        go_meet
        case rel => exact ⟨_, (true), (by first | rfl | (simp; done) | (simp [*]; done)), H', ⟨by first | omega | exact Nat.le_refl _⟩, ⟨by (with_reducible repeat (first | refine blk_drewN ?_ _ | refine blk_drew ?_ | refine blk_alloc ?_ _)); exact BK343.out⟩, ⟨by repeat (first | (with_reducible first | exact HB.out | apply below_alloc | apply pw_below_drewN | apply below_drew1 | refine below_set ?_ GE343.out) | exact HB.out)⟩⟩
      · rw [if_neg c6] at H
        have c6b0 : decide (4096 < (l0_0.length : Int)) = false := decide_eq_false c6
        have c6b1 : decide (4096 < l0_0.length) = false := decide_eq_false (by omega)
        clear c6
        have H' := Aside0.mk H
        clear H
        have hcz7_0 : w3.cell? ⟨gb343, 0, none⟩ = some (.slice A0_0 l0_0.length c0_0) := (blk_cell BK343.out 0).trans rfl
        have hcz7_1 : w3.cell? ⟨gb343, 1, none⟩ = some (.slice A0_1 l0_1.length c0_1) := (blk_cell BK343.out 1).trans rfl
        have hfz7_0 := blk_frozen BK343.out 0
        have hfz7_1 := blk_frozen BK343.out 1
        go_wp2
        go_meet
        case rel => exact ⟨_, (decide ((l0_1.length : Int) > 5000)), (by first | rfl | (simp; done) | (simp [*]; done)), H', ⟨by first | omega | exact Nat.le_refl _⟩, ⟨by (with_reducible repeat (first | refine blk_drewN ?_ _ | refine blk_drew ?_ | refine blk_alloc ?_ _)); exact BK343.out⟩, ⟨by repeat (first | (with_reducible first | exact HB.out | apply below_alloc | apply pw_below_drewN | apply below_drew1 | refine below_set ?_ GE343.out) | exact HB.out)⟩⟩
  case rest =>
    clear HC2
    try clear p2
    try clear c5
    try clear c5b0
    try clear c5b1
    try clear c6
    try clear c6b0
    try clear c6b1
    try clear hcz4_0
    try clear hcz4_1
    try clear hcz7_0
    try clear hcz7_1
    try clear hfz4_0
    try clear hfz4_1
    try clear hfz7_0
    try clear hfz7_1
    obtain ⟨kq, x21_1, rfl, HA, HJ1, BK343, HB⟩ := hcut
    cases kq with
    | zero => exact absurd HA.out (by simp [spec_DiskOk.j0])
    | succ kj1 =>
      have H := HA.out
      clear HA
      simp only [spec_DiskOk.j0] at H
      by_cases c8 : x21_1 = true
      · subst c8
        have H1 : (some false) = some r := by rw [if_pos rfl] at H; exact H
        clear H
        have H := H1
        clear H1
        obtain rfl := Option.some.inj H
        go_wp2
        go_ret
        exact ⟨by first | rfl | (simp [errW_none, errW_some] <;> rfl) | (simp [*, errW_none, errW_some] <;> rfl), by repeat (first | (with_reducible first | exact HB.out | apply below_alloc | apply pw_below_drewN | apply below_drew1 | refine below_set ?_ GE343.out) | exact HB.out)⟩
      · replace c8 := Bool.eq_false_iff.mpr c8
        subst c8
        have H1 : (spec_DiskOk.l0 kj1 (l0_0.length : Int) 0 l0_0 l0_1) = some r := by rw [if_neg (show ¬ (false = true) by decide)] at H; exact H
        clear H
        have H := H1
        clear H1
        have H' := Aside0.mk H
        clear H
        go_wp2
        go_loopg [4] kj1 (fun kq v4 w' => ∃ (x4_2 : Int), v4 = .int .i64 x4_2 ∧ Aside0 (spec_DiskOk.l0 kq (l0_0.length : Int) x4_2 l0_0 l0_1 = some r) ∧ Aside0 (kq ≤ kj1) ∧ Aside0 (w'.heap[gb343]? = some (.cells #[(.slice A0_0 l0_0.length c0_0), (.slice A0_1 l0_1.length c0_1)] 44 (0, 0))) ∧ Aside0 (Below w.heap.size w w'))
        case atStart => exact ⟨(0), (by first | rfl | (simp; done) | (simp [*]; done)), H', ⟨Nat.le_refl _⟩, ⟨by (with_reducible repeat (first | refine blk_drewN ?_ _ | refine blk_drew ?_ | refine blk_alloc ?_ _)); exact BK343.out⟩, ⟨by repeat (first | (with_reducible first | exact HB.out | apply below_alloc | apply pw_below_drewN | apply below_drew1 | refine below_set ?_ GE343.out) | exact HB.out)⟩⟩
        case round =>
          clear H'
          try clear p2
          try clear c5
          try clear c5b0
          try clear c5b1
          try clear c6
          try clear c6b0
          try clear c6b1
          try clear c8
          try clear hcz4_0
          try clear hcz4_1
          try clear hcz7_0
          try clear hcz7_1
          try clear hfz4_0
          try clear hfz4_1
          try clear hfz7_0
          try clear hfz7_1
          try clear p2
          obtain ⟨x4_2, rfl, HA, HK2, BK343, HB⟩ := hrel
          cases gk with
          | zero => exact absurd HA.out (by simp [spec_DiskOk.l0])
          | succ k2 =>
            have H := HA.out
            clear HA
            simp only [spec_DiskOk.l0] at H
            by_cases c9 : x4_2 < (l0_0.length : Int)
            · rw [if_pos c9] at H
              have c9b0 : decide (x4_2 < (l0_0.length : Int)) = true := decide_eq_true c9
              clear c9
              by_cases c10 : 0 ≤ x4_2
              · rw [if_pos c10] at H
                have c10b0 : decide (0 ≤ x4_2) = true := decide_eq_true c10
                clear c10
                by_cases c11 : x4_2 < (l0_0.length : Int)
                · rw [if_pos c11] at H
                  have c11b0 : decide (x4_2 < (l0_0.length : Int)) = true := decide_eq_true c11
                  clear c11
                  by_cases c12 : ((rd_L2 l0_0 x4_2).length : Int) = 64
                  · rw [if_pos c12] at H
                    have c12b0 : (((rd_L2 l0_0 x4_2).length : Int) == 64) = true := beq_iff_eq.mpr c12
                    have c12b1 : (((rd_L2 l0_0 x4_2).length : Int) != 64) = false := bne_eq_false_iff_eq.mpr c12
                    clear c12
                    have H' := Aside0.mk H
                    clear H
                    have hcz13_0 : wr.cell? ⟨gb343, 0, none⟩ = some (.slice A0_0 l0_0.length c0_0) := (blk_cell BK343.out 0).trans rfl
                    have hcz13_1 : wr.cell? ⟨gb343, 1, none⟩ = some (.slice A0_1 l0_1.length c0_1) := (blk_cell BK343.out 1).trans rfl
                    have hfz13_0 := blk_frozen BK343.out 0
                    have hfz13_1 := blk_frozen BK343.out 1
                    have p344 : 0 ≤ (x4_2 : Int) := of_decide_eq_true (by first | (with_reducible assumption) | assumption)
                    have q344 : x4_2 < (l0_0.length : Int) := of_decide_eq_true (by first | (with_reducible assumption) | assumption)
                    obtain ⟨ad344, A344_0, c344_0, e344, hx344_0, hl344_0, hi344_0⟩ := at_L2 HR0_0.out x4_2 p344 q344
                    cases e344
                    replace hx344_0 := (HB.out.cell (World.block_lt_of_cell? w _ hx344_0)).trans hx344_0
                    have HR344_0 := Aside0.mk hi344_0
                    have HC344_0 := Aside0.mk hl344_0
                    clear hi344_0 hl344_0
                    replace p344 := eq_true p344
                    replace q344 := eq_true q344
                    go_wp2
                    go_roundg k2
                    case measure => have := HJ1.out; have := HK2.out; omega
                    case rel => exact ⟨(wrap64 (x4_2 + 1)), (by first | rfl | (simp; done) | (simp [*]; done)), H', ⟨by have := HJ1.out; have := HK2.out; omega⟩, ⟨by (with_reducible repeat (first | refine blk_drewN ?_ _ | refine blk_drew ?_ | refine blk_alloc ?_ _)); exact BK343.out⟩, ⟨by repeat (first | (with_reducible first | exact HB.out | apply below_alloc | apply pw_below_drewN | apply below_drew1 | refine below_set ?_ GE343.out) | exact HB.out)⟩⟩
                  · rw [if_neg c12] at H
                    have c12b0 : (((rd_L2 l0_0 x4_2).length : Int) == 64) = false := beq_eq_false_iff_ne.mpr c12
                    have c12b1 : (((rd_L2 l0_0 x4_2).length : Int) != 64) = true := bne_iff_ne.mpr c12
                    obtain rfl := Option.some.inj H
                    have hcz14_0 : wr.cell? ⟨gb343, 0, none⟩ = some (.slice A0_0 l0_0.length c0_0) := (blk_cell BK343.out 0).trans rfl
                    have hcz14_1 : wr.cell? ⟨gb343, 1, none⟩ = some (.slice A0_1 l0_1.length c0_1) := (blk_cell BK343.out 1).trans rfl
                    have hfz14_0 := blk_frozen BK343.out 0
                    have hfz14_1 := blk_frozen BK343.out 1
                    have p344 : 0 ≤ (x4_2 : Int) := of_decide_eq_true (by first | (with_reducible assumption) | assumption)
                    have q344 : x4_2 < (l0_0.length : Int) := of_decide_eq_true (by first | (with_reducible assumption) | assumption)
                    obtain ⟨ad344, A344_0, c344_0, e344, hx344_0, hl344_0, hi344_0⟩ := at_L2 HR0_0.out x4_2 p344 q344
                    cases e344
                    replace hx344_0 := (HB.out.cell (World.block_lt_of_cell? w _ hx344_0)).trans hx344_0
                    have HR344_0 := Aside0.mk hi344_0
                    have HC344_0 := Aside0.mk hl344_0
                    clear hi344_0 hl344_0
                    replace p344 := eq_true p344
                    replace q344 := eq_true q344
                    go_wp2
                    go_ret
                    exact ⟨by first | rfl | (simp [errW_none, errW_some] <;> rfl) | (simp [*, errW_none, errW_some] <;> rfl), by repeat (first | (with_reducible first | exact HB.out | apply below_alloc | apply pw_below_drewN | apply below_drew1 | refine below_set ?_ GE343.out) | exact HB.out)⟩
                · rw [if_neg c11] at H
                  exact absurd H (by simp)
              · rw [if_neg c10] at H
                exact absurd H (by simp)
            · rw [if_neg c9] at H
              have c9b0 : decide (x4_2 < (l0_0.length : Int)) = false := decide_eq_false c9
              clear c9
              have H' := Aside0.mk H
              clear H
              go_wp2
              go_loopg [5] k2 (fun kq v5 w' => ∃ (x5_3 : Int), v5 = .int .i64 x5_3 ∧ Aside0 (spec_DiskOk.l1 kq (l0_0.length : Int) x5_3 l0_0 l0_1 = some r) ∧ Aside0 (kq ≤ k2) ∧ Aside0 (w'.heap[gb343]? = some (.cells #[(.slice A0_0 l0_0.length c0_0), (.slice A0_1 l0_1.length c0_1)] 44 (0, 0))) ∧ Aside0 (Below w.heap.size w w'))
              case atStart => exact ⟨(0), (by first | rfl | (simp; done) | (simp [*]; done)), H', ⟨Nat.le_refl _⟩, ⟨by (with_reducible repeat (first | refine blk_drewN ?_ _ | refine blk_drew ?_ | refine blk_alloc ?_ _)); exact BK343.out⟩, ⟨by repeat (first | (with_reducible first | exact HB.out | apply below_alloc | apply pw_below_drewN | apply below_drew1 | refine below_set ?_ GE343.out) | exact HB.out)⟩⟩
              case round =>
                clear H'
                try clear c1
                try clear p2
                try clear c3
                try clear p3
                try clear q3
                try clear hx3
                try clear c5
                try clear c5b0
                try clear c5b1
                try clear c6
                try clear c6b0
                try clear c6b1
                try clear p6
                try clear c8
                try clear c9
                try clear c9b0
                try clear c10
                try clear c10b0
                try clear c11
                try clear c11b0
                try clear c12
                try clear c12b0
                try clear c12b1
                try clear hcz13_0
                try clear hcz13_1
                try clear hcz14_0
                try clear hcz14_1
                try clear hcz4_0
                try clear hcz4_1
                try clear hcz7_0
                try clear hcz7_1
                try clear hfz13_0
                try clear hfz13_1
                try clear hfz14_0
                try clear hfz14_1
                try clear hfz4_0
                try clear hfz4_1
                try clear hfz7_0
                try clear hfz7_1
                try clear hx344_0
                try clear p2
                try clear p344
                try clear q344
                obtain ⟨x5_3, rfl, HA, HK3, BK343, HB⟩ := hrel
                cases gk with
                | zero => exact absurd HA.out (by simp [spec_DiskOk.l1])
                | succ k3 =>
                  have H := HA.out
                  clear HA
                  simp only [spec_DiskOk.l1] at H
                  by_cases c15 : x5_3 < (l0_1.length : Int)
                  · rw [if_pos c15] at H
                    have c15b0 : decide (x5_3 < (l0_1.length : Int)) = true := decide_eq_true c15
                    clear c15
                    by_cases c16 : 0 ≤ x5_3
                    · rw [if_pos c16] at H
                      have c16b0 : decide (0 ≤ x5_3) = true := decide_eq_true c16
                      clear c16
                      by_cases c17 : ((rd_T185 l0_1 x5_3).f0) < 0
                      · rw [if_pos c17] at H
                        have c17b0 : decide (((rd_T185 l0_1 x5_3).f0) < 0) = true := decide_eq_true c17
                        clear c17
                        obtain rfl := Option.some.inj H
                        have hcz18_0 : wr.cell? ⟨gb343, 0, none⟩ = some (.slice A0_0 l0_0.length c0_0) := (blk_cell BK343.out 0).trans rfl
                        have hcz18_1 : wr.cell? ⟨gb343, 1, none⟩ = some (.slice A0_1 l0_1.length c0_1) := (blk_cell BK343.out 1).trans rfl
                        have hfz18_0 := blk_frozen BK343.out 0
                        have hfz18_1 := blk_frozen BK343.out 1
                        have p345 : 0 ≤ (x5_3 : Int) := of_decide_eq_true (by first | (with_reducible assumption) | assumption)
                        have q345 : x5_3 < (l0_1.length : Int) := of_decide_eq_true (by first | (with_reducible assumption) | assumption)
                        obtain ⟨ad345, A345_1, c345_1, e345, hx345_0, hx345_1, hl345_1, hi345_1⟩ := at_T185 HR0_1.out x5_3 p345 q345
                        cases e345
                        replace hx345_0 := (HB.out.cell (World.block_lt_of_cell? w _ hx345_0)).trans hx345_0
                        replace hx345_1 := (HB.out.cell (World.block_lt_of_cell? w _ hx345_1)).trans hx345_1
                        have HR345_1 := Aside0.mk hi345_1
                        have HC345_1 := Aside0.mk hl345_1
                        clear hi345_1 hl345_1
                        replace p345 := eq_true p345
                        replace q345 := eq_true q345
                        go_wp2_with (first | ((with_reducible refine gate_dst (N := 6) rfl ?_); (try (refine gate_guard (by rfl) ?_; dsimp only)); refine box_event ?hg (N := 6) ?hd (cs := #[.int .i64 0, .slice none 0 0]) (t := 185) ?hr ?_; (case hd => rfl); (case hg => rfl); (case hr => first | (go_simp; done) | (go_simp; rfl)); intro gb346 hg w19 hbox hb; have n0_ := Aside0.mk (blk_below (g := gb343) (o := .cells #[.slice A0_0 l0_0.length c0_0, .slice (some ad345) l0_1.length c0_1] 44 (0, 0)) (by (with_reducible repeat (first | refine blk_drewN ?_ _ | refine blk_drew ?_ | refine blk_alloc ?_ _)); exact BK343.out) hb); have n1_ := Aside0.mk (below_step (by repeat (first | (with_reducible first | exact HB.out | apply below_alloc | apply pw_below_drewN | apply below_drew1 | refine below_set ?_ GE343.out) | exact HB.out)) hb); have n2_ := Aside0.mk (hbox); have n3_ := Aside0.mk ((by rw [hg]; exact (below_size (by repeat (first | (with_reducible first | exact HB.out | apply below_alloc | apply pw_below_drewN | apply below_drew1 | refine below_set ?_ GE343.out) | exact HB.out))) : w.heap.size ≤ gb346)); have n4_ := Aside0.mk ((by rw [hg]; exact (below_size (by repeat (first | (with_reducible first | exact HB.out | apply below_alloc | apply pw_below_drewN | apply below_drew1 | refine below_set ?_ GE343.out) | exact HB.out))) : w.heap.size ≤ gb346)); have n5_ := Aside0.mk ((by rw [hg]; exact Nat.ne_of_lt (blk_lt (g := gb343) (o := .cells #[.slice A0_0 l0_0.length c0_0, .slice (some ad345) l0_1.length c0_1] 44 (0, 0)) (by (with_reducible repeat (first | refine blk_drewN ?_ _ | refine blk_drew ?_ | refine blk_alloc ?_ _)); exact BK343.out)) : gb343 ≠ gb346)); have n6_ := Aside0.mk ((by rw [hg]; exact Nat.ne_of_gt (blk_lt (g := gb343) (o := .cells #[.slice A0_0 l0_0.length c0_0, .slice (some ad345) l0_1.length c0_1] 44 (0, 0)) (by (with_reducible repeat (first | refine blk_drewN ?_ _ | refine blk_drew ?_ | refine blk_alloc ?_ _)); exact BK343.out)) : gb346 ≠ gb343)); clear BK343; clear HB; have BK343 := n0_; have HB := n1_; have BK346 := n2_; have GW346 := n3_; have GE346 := n4_; have NB343_346 := n5_; have NB346_343 := n6_; clear n0_ n1_ n2_ n3_ n4_ n5_ n6_; clear hb hbox hg; have hnb20 := NB346_343.out; have hnc20 := NB343_346.out; have hcz21_0 : w19.cell? ⟨gb346, 0, none⟩ = some (.int .i64 0) := (blk_cell BK346.out 0).trans rfl; have hcz21_1 : w19.cell? ⟨gb346, 1, none⟩ = some (.slice none 0 0) := (blk_cell BK346.out 1).trans rfl; have hfz21_0 := blk_frozen BK346.out 0; have hfz21_1 := blk_frozen BK346.out 1))
                        go_ret
                        exact ⟨by first | rfl | (simp [errW_none, errW_some] <;> rfl) | (simp [*, errW_none, errW_some] <;> rfl), by repeat (first | (with_reducible first | exact HB.out | apply below_alloc | apply pw_below_drewN | apply below_drew1 | refine below_set ?_ GE343.out | refine below_set ?_ GE346.out) | exact HB.out)⟩
                      · rw [if_neg c17] at H
                        have c17b0 : decide (((rd_T185 l0_1 x5_3).f0) < 0) = false := decide_eq_false c17
                        clear c17
                        by_cases c22 : ((rd_T185 l0_1 x5_3).f0) ≥ (l0_0.length : Int)
                        · rw [if_pos c22] at H
                          have c22b0 : decide ((l0_0.length : Int) ≤ ((rd_T185 l0_1 x5_3).f0)) = true := decide_eq_true c22
                          clear c22
                          obtain rfl := Option.some.inj H
                          have hcz23_0 : wr.cell? ⟨gb343, 0, none⟩ = some (.slice A0_0 l0_0.length c0_0) := (blk_cell BK343.out 0).trans rfl
                          have hcz23_1 : wr.cell? ⟨gb343, 1, none⟩ = some (.slice A0_1 l0_1.length c0_1) := (blk_cell BK343.out 1).trans rfl
                          have hfz23_0 := blk_frozen BK343.out 0
                          have hfz23_1 := blk_frozen BK343.out 1
                          have p345 : 0 ≤ (x5_3 : Int) := of_decide_eq_true (by first | (with_reducible assumption) | assumption)
                          have q345 : x5_3 < (l0_1.length : Int) := of_decide_eq_true (by first | (with_reducible assumption) | assumption)
                          obtain ⟨ad345, A345_1, c345_1, e345, hx345_0, hx345_1, hl345_1, hi345_1⟩ := at_T185 HR0_1.out x5_3 p345 q345
                          cases e345
                          replace hx345_0 := (HB.out.cell (World.block_lt_of_cell? w _ hx345_0)).trans hx345_0
                          replace hx345_1 := (HB.out.cell (World.block_lt_of_cell? w _ hx345_1)).trans hx345_1
                          have HR345_1 := Aside0.mk hi345_1
                          have HC345_1 := Aside0.mk hl345_1
                          clear hi345_1 hl345_1
                          replace p345 := eq_true p345
                          replace q345 := eq_true q345
                          go_wp2_with (first | ((with_reducible refine gate_dst (N := 6) rfl ?_); (try (refine gate_guard (by rfl) ?_; dsimp only)); refine box_event ?hg (N := 6) ?hd (cs := #[.int .i64 0, .slice none 0 0]) (t := 185) ?hr ?_; (case hd => rfl); (case hg => rfl); (case hr => first | (go_simp; done) | (go_simp; rfl)); intro gb346 hg w24 hbox hb; have n0_ := Aside0.mk (blk_below (g := gb343) (o := .cells #[.slice A0_0 l0_0.length c0_0, .slice (some ad345) l0_1.length c0_1] 44 (0, 0)) (by (with_reducible repeat (first | refine blk_drewN ?_ _ | refine blk_drew ?_ | refine blk_alloc ?_ _)); exact BK343.out) hb); have n1_ := Aside0.mk (below_step (by repeat (first | (with_reducible first | exact HB.out | apply below_alloc | apply pw_below_drewN | apply below_drew1 | refine below_set ?_ GE343.out) | exact HB.out)) hb); have n2_ := Aside0.mk (hbox); have n3_ := Aside0.mk ((by rw [hg]; exact (below_size (by repeat (first | (with_reducible first | exact HB.out | apply below_alloc | apply pw_below_drewN | apply below_drew1 | refine below_set ?_ GE343.out) | exact HB.out))) : w.heap.size ≤ gb346)); have n4_ := Aside0.mk ((by rw [hg]; exact (below_size (by repeat (first | (with_reducible first | exact HB.out | apply below_alloc | apply pw_below_drewN | apply below_drew1 | refine below_set ?_ GE343.out) | exact HB.out))) : w.heap.size ≤ gb346)); have n5_ := Aside0.mk ((by rw [hg]; exact Nat.ne_of_lt (blk_lt (g := gb343) (o := .cells #[.slice A0_0 l0_0.length c0_0, .slice (some ad345) l0_1.length c0_1] 44 (0, 0)) (by (with_reducible repeat (first | refine blk_drewN ?_ _ | refine blk_drew ?_ | refine blk_alloc ?_ _)); exact BK343.out)) : gb343 ≠ gb346)); have n6_ := Aside0.mk ((by rw [hg]; exact Nat.ne_of_gt (blk_lt (g := gb343) (o := .cells #[.slice A0_0 l0_0.length c0_0, .slice (some ad345) l0_1.length c0_1] 44 (0, 0)) (by (with_reducible repeat (first | refine blk_drewN ?_ _ | refine blk_drew ?_ | refine blk_alloc ?_ _)); exact BK343.out)) : gb346 ≠ gb343)); clear BK343; clear HB; have BK343 := n0_; have HB := n1_; have BK346 := n2_; have GW346 := n3_; have GE346 := n4_; have NB343_346 := n5_; have NB346_343 := n6_; clear n0_ n1_ n2_ n3_ n4_ n5_ n6_; clear hb hbox hg; have hnb25 := NB346_343.out; have hnc25 := NB343_346.out; have hcz26_0 : w24.cell? ⟨gb346, 0, none⟩ = some (.int .i64 0) := (blk_cell BK346.out 0).trans rfl; have hcz26_1 : w24.cell? ⟨gb346, 1, none⟩ = some (.slice none 0 0) := (blk_cell BK346.out 1).trans rfl; have hfz26_0 := blk_frozen BK346.out 0; have hfz26_1 := blk_frozen BK346.out 1))
                          go_ret
                          exact ⟨by first | rfl | (simp [errW_none, errW_some] <;> rfl) | (simp [*, errW_none, errW_some] <;> rfl), by repeat (first | (with_reducible first | exact HB.out | apply below_alloc | apply pw_below_drewN | apply below_drew1 | refine below_set ?_ GE343.out | refine below_set ?_ GE346.out) | exact HB.out)⟩
                        · rw [if_neg c22] at H
                          have c22b0 : decide ((l0_0.length : Int) ≤ ((rd_T185 l0_1 x5_3).f0)) = false := decide_eq_false c22
                          clear c22
                          by_cases c27 : (((rd_T185 l0_1 x5_3).f1).length : Int) = 64
                          · rw [if_pos c27] at H
                            have c27b0 : ((((rd_T185 l0_1 x5_3).f1).length : Int) == 64) = true := beq_iff_eq.mpr c27
                            have c27b1 : ((((rd_T185 l0_1 x5_3).f1).length : Int) != 64) = false := bne_eq_false_iff_eq.mpr c27
                            clear c27
                            have H' := Aside0.mk H
                            clear H
                            have hcz28_0 : wr.cell? ⟨gb343, 0, none⟩ = some (.slice A0_0 l0_0.length c0_0) := (blk_cell BK343.out 0).trans rfl
                            have hcz28_1 : wr.cell? ⟨gb343, 1, none⟩ = some (.slice A0_1 l0_1.length c0_1) := (blk_cell BK343.out 1).trans rfl
                            have hfz28_0 := blk_frozen BK343.out 0
                            have hfz28_1 := blk_frozen BK343.out 1
                            have p345 : 0 ≤ (x5_3 : Int) := of_decide_eq_true (by first | (with_reducible assumption) | assumption)
                            have q345 : x5_3 < (l0_1.length : Int) := of_decide_eq_true (by first | (with_reducible assumption) | assumption)
                            obtain ⟨ad345, A345_1, c345_1, e345, hx345_0, hx345_1, hl345_1, hi345_1⟩ := at_T185 HR0_1.out x5_3 p345 q345
                            cases e345
                            replace hx345_0 := (HB.out.cell (World.block_lt_of_cell? w _ hx345_0)).trans hx345_0
                            replace hx345_1 := (HB.out.cell (World.block_lt_of_cell? w _ hx345_1)).trans hx345_1
                            have HR345_1 := Aside0.mk hi345_1
                            have HC345_1 := Aside0.mk hl345_1
                            clear hi345_1 hl345_1
                            replace p345 := eq_true p345
                            replace q345 := eq_true q345
                            go_wp2_with (first | ((with_reducible refine gate_dst (N := 6) rfl ?_); (try (refine gate_guard (by rfl) ?_; dsimp only)); refine box_event ?hg (N := 6) ?hd (cs := #[.int .i64 0, .slice none 0 0]) (t := 185) ?hr ?_; (case hd => rfl); (case hg => rfl); (case hr => first | (go_simp; done) | (go_simp; rfl)); intro gb346 hg w29 hbox hb; have n0_ := Aside0.mk (blk_below (g := gb343) (o := .cells #[.slice A0_0 l0_0.length c0_0, .slice (some ad345) l0_1.length c0_1] 44 (0, 0)) (by (with_reducible repeat (first | refine blk_drewN ?_ _ | refine blk_drew ?_ | refine blk_alloc ?_ _)); exact BK343.out) hb); have n1_ := Aside0.mk (below_step (by repeat (first | (with_reducible first | exact HB.out | apply below_alloc | apply pw_below_drewN | apply below_drew1 | refine below_set ?_ GE343.out) | exact HB.out)) hb); have n2_ := Aside0.mk (hbox); have n3_ := Aside0.mk ((by rw [hg]; exact (below_size (by repeat (first | (with_reducible first | exact HB.out | apply below_alloc | apply pw_below_drewN | apply below_drew1 | refine below_set ?_ GE343.out) | exact HB.out))) : w.heap.size ≤ gb346)); have n4_ := Aside0.mk ((by rw [hg]; exact (below_size (by repeat (first | (with_reducible first | exact HB.out | apply below_alloc | apply pw_below_drewN | apply below_drew1 | refine below_set ?_ GE343.out) | exact HB.out))) : w.heap.size ≤ gb346)); have n5_ := Aside0.mk ((by rw [hg]; exact Nat.ne_of_lt (blk_lt (g := gb343) (o := .cells #[.slice A0_0 l0_0.length c0_0, .slice (some ad345) l0_1.length c0_1] 44 (0, 0)) (by (with_reducible repeat (first | refine blk_drewN ?_ _ | refine blk_drew ?_ | refine blk_alloc ?_ _)); exact BK343.out)) : gb343 ≠ gb346)); have n6_ := Aside0.mk ((by rw [hg]; exact Nat.ne_of_gt (blk_lt (g := gb343) (o := .cells #[.slice A0_0 l0_0.length c0_0, .slice (some ad345) l0_1.length c0_1] 44 (0, 0)) (by (with_reducible repeat (first | refine blk_drewN ?_ _ | refine blk_drew ?_ | refine blk_alloc ?_ _)); exact BK343.out)) : gb346 ≠ gb343)); clear BK343; clear HB; have BK343 := n0_; have HB := n1_; have BK346 := n2_; have GW346 := n3_; have GE346 := n4_; have NB343_346 := n5_; have NB346_343 := n6_; clear n0_ n1_ n2_ n3_ n4_ n5_ n6_; clear hb hbox hg; have hnb30 := NB346_343.out; have hnc30 := NB343_346.out; have hcz31_0 : w29.cell? ⟨gb346, 0, none⟩ = some (.int .i64 0) := (blk_cell BK346.out 0).trans rfl; have hcz31_1 : w29.cell? ⟨gb346, 1, none⟩ = some (.slice none 0 0) := (blk_cell BK346.out 1).trans rfl; have hfz31_0 := blk_frozen BK346.out 0; have hfz31_1 := blk_frozen BK346.out 1))
                            go_roundg k3
                            case measure => have := HJ1.out; have := HK2.out; have := HK3.out; omega
                            case rel => exact ⟨(wrap64 (x5_3 + 1)), (by first | rfl | (simp; done) | (simp [*]; done)), H', ⟨by have := HJ1.out; have := HK2.out; have := HK3.out; omega⟩, ⟨by (with_reducible repeat (first | refine blk_drewN ?_ _ | refine blk_drew ?_ | refine blk_alloc ?_ _)); refine blk_far ?_ NB343_346.out _; (with_reducible repeat (first | refine blk_drewN ?_ _ | refine blk_drew ?_ | refine blk_alloc ?_ _)); refine blk_far ?_ NB343_346.out _; (with_reducible repeat (first | refine blk_drewN ?_ _ | refine blk_drew ?_ | refine blk_alloc ?_ _)); exact BK343.out⟩, ⟨by repeat (first | (with_reducible first | exact HB.out | apply below_alloc | apply pw_below_drewN | apply below_drew1 | refine below_set ?_ GE343.out | refine below_set ?_ GE346.out) | exact HB.out)⟩⟩
                          · rw [if_neg c27] at H
                            have c27b0 : ((((rd_T185 l0_1 x5_3).f1).length : Int) == 64) = false := beq_eq_false_iff_ne.mpr c27
                            have c27b1 : ((((rd_T185 l0_1 x5_3).f1).length : Int) != 64) = true := bne_iff_ne.mpr c27
                            obtain rfl := Option.some.inj H
                            have hcz32_0 : wr.cell? ⟨gb343, 0, none⟩ = some (.slice A0_0 l0_0.length c0_0) := (blk_cell BK343.out 0).trans rfl
                            have hcz32_1 : wr.cell? ⟨gb343, 1, none⟩ = some (.slice A0_1 l0_1.length c0_1) := (blk_cell BK343.out 1).trans rfl
                            have hfz32_0 := blk_frozen BK343.out 0
                            have hfz32_1 := blk_frozen BK343.out 1
                            have p345 : 0 ≤ (x5_3 : Int) := of_decide_eq_true (by first | (with_reducible assumption) | assumption)
                            have q345 : x5_3 < (l0_1.length : Int) := of_decide_eq_true (by first | (with_reducible assumption) | assumption)
                            obtain ⟨ad345, A345_1, c345_1, e345, hx345_0, hx345_1, hl345_1, hi345_1⟩ := at_T185 HR0_1.out x5_3 p345 q345
                            cases e345
                            replace hx345_0 := (HB.out.cell (World.block_lt_of_cell? w _ hx345_0)).trans hx345_0
                            replace hx345_1 := (HB.out.cell (World.block_lt_of_cell? w _ hx345_1)).trans hx345_1
                            have HR345_1 := Aside0.mk hi345_1
                            have HC345_1 := Aside0.mk hl345_1
                            clear hi345_1 hl345_1
                            replace p345 := eq_true p345
                            replace q345 := eq_true q345
                            go_wp2_with (first | ((with_reducible refine gate_dst (N := 6) rfl ?_); (try (refine gate_guard (by rfl) ?_; dsimp only)); refine box_event ?hg (N := 6) ?hd (cs := #[.int .i64 0, .slice none 0 0]) (t := 185) ?hr ?_; (case hd => rfl); (case hg => rfl); (case hr => first | (go_simp; done) | (go_simp; rfl)); intro gb346 hg w33 hbox hb; have n0_ := Aside0.mk (blk_below (g := gb343) (o := .cells #[.slice A0_0 l0_0.length c0_0, .slice (some ad345) l0_1.length c0_1] 44 (0, 0)) (by (with_reducible repeat (first | refine blk_drewN ?_ _ | refine blk_drew ?_ | refine blk_alloc ?_ _)); exact BK343.out) hb); have n1_ := Aside0.mk (below_step (by repeat (first | (with_reducible first | exact HB.out | apply below_alloc | apply pw_below_drewN | apply below_drew1 | refine below_set ?_ GE343.out) | exact HB.out)) hb); have n2_ := Aside0.mk (hbox); have n3_ := Aside0.mk ((by rw [hg]; exact (below_size (by repeat (first | (with_reducible first | exact HB.out | apply below_alloc | apply pw_below_drewN | apply below_drew1 | refine below_set ?_ GE343.out) | exact HB.out))) : w.heap.size ≤ gb346)); have n4_ := Aside0.mk ((by rw [hg]; exact (below_size (by repeat (first | (with_reducible first | exact HB.out | apply below_alloc | apply pw_below_drewN | apply below_drew1 | refine below_set ?_ GE343.out) | exact HB.out))) : w.heap.size ≤ gb346)); have n5_ := Aside0.mk ((by rw [hg]; exact Nat.ne_of_lt (blk_lt (g := gb343) (o := .cells #[.slice A0_0 l0_0.length c0_0, .slice (some ad345) l0_1.length c0_1] 44 (0, 0)) (by (with_reducible repeat (first | refine blk_drewN ?_ _ | refine blk_drew ?_ | refine blk_alloc ?_ _)); exact BK343.out)) : gb343 ≠ gb346)); have n6_ := Aside0.mk ((by rw [hg]; exact Nat.ne_of_gt (blk_lt (g := gb343) (o := .cells #[.slice A0_0 l0_0.length c0_0, .slice (some ad345) l0_1.length c0_1] 44 (0, 0)) (by (with_reducible repeat (first | refine blk_drewN ?_ _ | refine blk_drew ?_ | refine blk_alloc ?_ _)); exact BK343.out)) : gb346 ≠ gb343)); clear BK343; clear HB; have BK343 := n0_; have HB := n1_; have BK346 := n2_; have GW346 := n3_; have GE346 := n4_; have NB343_346 := n5_; have NB346_343 := n6_; clear n0_ n1_ n2_ n3_ n4_ n5_ n6_; clear hb hbox hg; have hnb34 := NB346_343.out; have hnc34 := NB343_346.out; have hcz35_0 : w33.cell? ⟨gb346, 0, none⟩ = some (.int .i64 0) := (blk_cell BK346.out 0).trans rfl; have hcz35_1 : w33.cell? ⟨gb346, 1, none⟩ = some (.slice none 0 0) := (blk_cell BK346.out 1).trans rfl; have hfz35_0 := blk_frozen BK346.out 0; have hfz35_1 := blk_frozen BK346.out 1))
                            go_ret
                            exact ⟨by first | rfl | (simp [errW_none, errW_some] <;> rfl) | (simp [*, errW_none, errW_some] <;> rfl), by repeat (first | (with_reducible first | exact HB.out | apply below_alloc | apply pw_below_drewN | apply below_drew1 | refine below_set ?_ GE343.out | refine below_set ?_ GE346.out) | exact HB.out)⟩
                    · rw [if_neg c16] at H
                      exact absurd H (by simp)
                  · rw [if_neg c15] at H
                    have c15b0 : decide (x5_3 < (l0_1.length : Int)) = false := decide_eq_false c15
                    clear c15
                    obtain rfl := Option.some.inj H
                    have hcz36_0 : wr.cell? ⟨gb343, 0, none⟩ = some (.slice A0_0 l0_0.length c0_0) := (blk_cell BK343.out 0).trans rfl
                    have hcz36_1 : wr.cell? ⟨gb343, 1, none⟩ = some (.slice A0_1 l0_1.length c0_1) := (blk_cell BK343.out 1).trans rfl
                    have hfz36_0 := blk_frozen BK343.out 0
                    have hfz36_1 := blk_frozen BK343.out 1
                    go_wp2
                    go_ret
                    exact ⟨by first | rfl | (simp [errW_none, errW_some] <;> rfl) | (simp [*, errW_none, errW_some] <;> rfl), by repeat (first | (with_reducible first | exact HB.out | apply below_alloc | apply pw_below_drewN | apply below_drew1 | refine below_set ?_ GE343.out) | exact HB.out)⟩

end Go.Proofs.Ytlopmffdebhpfaa.G

/-! ## DoI -/
namespace Go.Proofs.Ytlopmffdebhpfaa.G
open Go.RowKit Go.Proofs.YtlopmffdebhpfaaW.PrintWords Go.Proofs.YtlopmffdebhpfaaW.PrintLast Go.Proofs.YtlopmffdebhpfaaW.PrintMore
set_option linter.unusedVariables false
set_option linter.unusedSimpArgs false

theorem DevOk_below {w w1 : World} {base g b : Nat} {safe : List (List Int)} {ps : List S185} (h : DevOk w base g b safe ps) (hb : Below w.heap.size w w1) : DevOk w1 base g b safe ps := by
  obtain ⟨A0, c0, A1, c1, P, Q, h1, h2, h3, h4⟩ := h
  exact ⟨A0, c0, A1, c1, P, Q, blk_below h1 hb, IsDisk_below h2 hb, LMap_step h3 (hb.block b (LMap_lt h3)), h4⟩
theorem DskOk_below {w w1 : World} {base g : Nat} {safe : List (List Int)} {ps : List S185} (h : DskOk w base g safe ps) (hb : Below w.heap.size w w1) : DskOk w1 base g safe ps := by
  obtain ⟨A0, c0, A1, c1, P, Q, h1, h2, h3⟩ := h
  exact ⟨A0, c0, A1, c1, P, Q, blk_below h1 hb, IsDisk_below h2 hb, h3⟩
end Go.Proofs.Ytlopmffdebhpfaa.G

/-! ## Play -/
namespace Go.Proofs.Ytlopmffdebhpfaa.G
open Go.RowKit Go.Proofs.YtlopmffdebhpfaaW.PrintWords Go.Proofs.YtlopmffdebhpfaaW.PrintLast Go.Proofs.YtlopmffdebhpfaaW.PrintMore
set_option linter.unusedVariables false
set_option linter.unusedSimpArgs false
attribute [local go_sem] max2_int min2_int max_two min_two max_three min_three max_four min_four
/-- Ops one after the other, until one fails: the disk, and how many went well. -/
def playL : List S63 → List (List Int) × List S185 → (List (List Int) × List S185) × Nat
  | [], d => (d, 0)
  | o :: r, d => if (doV d.1 d.2 o.f0 o.f1 o.f2).2 = true then ((playL r (doV d.1 d.2 o.f0 o.f1 o.f2).1).1, (playL r (doV d.1 d.2 o.f0 o.f1 o.f2).1).2 + 1) else ((doV d.1 d.2 o.f0 o.f1 o.f2).1, 0)
def playOf (ok : Bool) (safe : List (List Int)) (ps : List S185) (ops : List S63) (n : Int) : (List (List Int) × List S185) × Int :=
  if ok = true then (if ops.length ≤ 5000 then ((playL (ops.take n.toNat) (safe, ps)).1, ((playL (ops.take n.toNat) (safe, ps)).2 : Int)) else ((safe, ps), 0)) else ((safe, ps), 0)
/-- The writes that wait: not too many, each for a sector. -/
def Plays (m : Nat) (ps : List S185) : Prop := ps.length ≤ 5000 ∧ ∀ p ∈ ps, 0 ≤ p.f0 ∧ p.f0 < (m : Int)
theorem doV_plays {safe : List (List Int)} {ps : List S185} (kd at_ : Int) (dat : List Int) (h : Plays safe.length ps) : (doV safe ps kd at_ dat).1.1.length = safe.length ∧ Plays safe.length (doV safe ps kd at_ dat).1.2 := by
  unfold doV
  repeat' split
  all_goals first | exact ⟨rfl, h⟩ | exact ⟨syncL_length _ _, Nat.zero_le _, fun p hp => by cases hp⟩ | skip
  all_goals refine ⟨rfl, by simp; omega, fun p hp => ?_⟩
  all_goals
    rcases List.mem_append.1 hp with hp | hp
    · exact h.2 p hp
    · rw [List.mem_singleton.1 hp]
      exact ⟨by show (0 : Int) ≤ at_; omega, by show at_ < _; omega⟩
def Bd (sf : List (List Int)) (pf : List S185) : Prop := (∀ l ∈ sf, l.length ≤ 1048576) ∧ ∀ p ∈ pf, p.f1.length ≤ 1048576
theorem syncL_bd : ∀ (ps : List S185) (safe : List (List Int)), Bd safe ps → ∀ l ∈ syncL safe ps, l.length ≤ 1048576
  | [], safe, h => h.1
  | p :: ps, safe, h => syncL_bd ps (safe.set p.f0.toNat p.f1) ⟨fun l hl => by
      rcases List.mem_or_eq_of_mem_set hl with h1 | rfl
      · exact h.1 l h1
      · exact h.2 p List.mem_cons_self, fun q hq => h.2 q (List.mem_cons_of_mem _ hq)⟩
theorem doV_Bd {safe : List (List Int)} {ps : List S185} (kd at_ : Int) (dat : List Int) (h : Bd safe ps) : Bd (doV safe ps kd at_ dat).1.1 (doV safe ps kd at_ dat).1.2 := by
  unfold doV
  repeat' split
  all_goals first | exact h | exact ⟨syncL_bd ps safe h, fun p hp => by cases hp⟩ | skip
  all_goals refine ⟨h.1, fun p hp => ?_⟩
  all_goals
    rcases List.mem_append.1 hp with hp | hp
    · exact h.2 p hp
    · rw [List.mem_singleton.1 hp]
      show dat.length ≤ 1048576
      omega
theorem drop_play {ops : List S63} {m x : Nat} (h : x < (ops.take m).length) : (ops.take m).drop x = rd_T63 ops (x : Int) :: (ops.take m).drop (x + 1) := by
  rw [List.drop_eq_getElem_cons h]
  congr 1
  have h2 : x < ops.length := by rw [List.length_take] at h; omega
  rw [List.getElem_take]
  show _ = ops.getD ((x : Int)).toNat z63
  rw [Int.toNat_natCast, List.getD_eq_getElem?_getD, List.getElem?_eq_getElem h2]
  rfl
set_option maxHeartbeats 8000000 in
set_option maxRecDepth 100000 in
theorem impl_Play.calls (k : Nat) (A0 : Option Addr) (c0 : Nat) (safe : List (List Int)) (A1 : Option Addr) (c1 : Nat) (ps : List S185) (Ao : Option Addr) (co : Nat) (ops : List S63) (n : Int) (ok : Bool) (w : World) (hr0 : Kd.C (Kd.slice 5 (Kd.int .u8)) w A0 safe.length safe) (hc0 : safe.length ≤ c0) (hr1 : Kd.C k185 w A1 ps.length ps) (hc1 : ps.length ≤ c1) (hro : Kd.C k63 w Ao ops.length ops) (hco : ops.length ≤ co)
    (hl0 : safe.length ≤ 1048576) (hl1 : ps.length ≤ 1048576) (hb0 : ∀ l ∈ safe, l.length ≤ 1048576) (hb1 : ∀ p ∈ ps, p.f1.length ≤ 1048576) (hrg : ok = true → Plays safe.length ps)
    (hok : impl_DiskOk.f k safe ps = some ok) (hwf : ∀ p ∈ ps, (Lit.int .i64 p.f0).wf = true) (hwo : ∀ o ∈ ops, (Lit.int .i64 o.f1).wf = true) :
    Calls Try.prog 45 #[.agg #[.slice A0 safe.length c0, .slice A1 ps.length c1], .slice Ao ops.length co, .int .i64 n] w fun e w' => ∃ v0 v1 : Value, ∃ P Q, e = .returned (.tuple #[.agg #[v0, v1], .int .i64 (playOf ok safe ps ops n).2]) ∧ IsDisk w' w.heap.size P Q v0 v1 (playOf ok safe ps ops n).1.1 (playOf ok safe ps ops n).1.2 ∧ Below w.heap.size w w' := by
  have hu44 := Try.underlying44
  have hu63 := Try.underlying63
  have hu159 := Try.underlying159
  have HR0 := Aside0.mk hr0
  have HR1 := Aside0.mk hr1
  have HC0 := Aside0.mk hc0
  have HC1 := Aside0.mk hc1
  have HRO := Aside0.mk hro
  have HCO := Aside0.mk hco
  have HL0 := Aside0.mk hl0
  have HL1 := Aside0.mk hl1
  have HB0 := Aside0.mk hb0
  have HB1 := Aside0.mk hb1
  have N1 := Aside0.mk hok
  have HRG := Aside0.mk hrg
  clear hr0 hr1 hc0 hc1 hro hco hl0 hl1 hb0 hb1 hok hrg
  obtain ⟨⟨⟨SF, PF⟩, RF⟩, hdo⟩ : ∃ r, playOf ok safe ps ops n = r := ⟨_, rfl⟩
  rw [hdo]
  dsimp only
  have HDO := Aside0.mk hdo
  clear hdo
  have HWF := Aside0.mk hwf
  have HWO := Aside0.mk hwo
  clear hwf hwo
  go_enter Try.func45, Try.ntmps45
  go_wp2_with (first | ((with_reducible refine gate_dst (N := 3) rfl ?_); refine box_event ?hg (N := 3) ?hd (cs := #[.slice A0 safe.length c0, .slice A1 ps.length c1]) (t := 44) ?hr ?_; (case hd => rfl); (case hg => rfl); (case hr => first | (go_simp; done) | (go_simp; rfl)); intro g2 hgr w1 hbox hbel; have B2 := Aside0.mk hbox; have HB := Aside0.mk hbel; clear hbox hbel hgr) | ((with_reducible refine gate_dst (N := 6) rfl ?_); refine box_event ?hg (N := 6) ?hd (cs := #[.slice none 0 0, .slice none 0 0]) (t := 44) ?hr ?_; (case hd => rfl); (case hg => rfl); (case hr => first | (go_simp; done) | (go_simp; rfl)); intro g4 hgr w3 hbox hbel; have B4 := Aside0.mk hbox; have G4w : Aside0 (w.heap.size ≤ g4) := ⟨by rw [hgr]; exact HB.out.size⟩; have B2 := Aside0.mk (blk_below B2.out hbel); have HB := Aside0.mk (below_step HB.out hbel); have c20 : w3.cell? ⟨g2, 0, none⟩ = some (.slice A0 safe.length c0) := (blk_cell B2.out 0).trans rfl; have c21 : w3.cell? ⟨g2, 1, none⟩ = some (.slice A1 ps.length c1) := (blk_cell B2.out 1).trans rfl; clear hbox hbel hgr))
  have HRb := Aside0.mk (Kd.C_below HRO.out HB.out)
  refine (impl_Disk_clone.apart A0 c0 safe A1 c1 ps _ (Kd.C_below HR0.out HB.out) HC0.out (Kd.C_below HR1.out HB.out) HC1.out HL0.out HL1.out HB0.out HB1.out).mono ?_
  rintro e w4 ⟨v0, v1, P, Q, rfl, hd, hb⟩
  obtain ⟨Y0, yc0, rfl⟩ := Kd.S_slice hd.2.1
  obtain ⟨Y1, yc1, rfl⟩ := Kd.S_slice hd.2.2
  have HD := Aside0.mk hd
  have HX := Aside0.mk hb
  clear hb hd
  go_wp2_with fail
  refine (impl_deviceOf.calls Y0 safe.length yc0 Y1 yc1 ps _ (Kd.S_reads' HD.out.2.2).2.2 (Kd.S_reads' HD.out.2.2).2.1 HWF.out).mono ?_
  rintro e w5 ⟨g, bm, rfl, hdev, hmap, hg, hbm, hgb, hb⟩
  have HDV := Aside0.mk (show DevOk w5 w3.heap.size g bm safe ps from ⟨Y0, yc0, Y1, yc1, P, Q, hdev, IsDisk_below HD.out hb, hmap, hgb, Nat.le_trans HX.out.size hg, Nat.le_trans HX.out.size hbm⟩)
  have HX := Aside0.mk (below_step HX.out hb)
  clear hdev hmap hg hbm hgb hb HD c20 c21
  have c20 : w5.cell? ⟨g2, 0, none⟩ = some (.slice A0 safe.length c0) := (blk_cell (blk_below B2.out HX.out) 0).trans rfl
  have c21 : w5.cell? ⟨g2, 1, none⟩ = some (.slice A1 ps.length c1) := (blk_cell (blk_below B2.out HX.out) 1).trans rfl
  go_wp2_with fail
  refine (impl_DiskOk.calls k A0 c0 safe A1 c1 ps ok _ (Kd.C_below HR0.out (below_step HB.out HX.out)) HC0.out (Kd.C_below HR1.out (below_step HB.out HX.out)) HC1.out N1.out).mono ?_
  rintro e w6 ⟨rfl, hb⟩
  have HDV := Aside0.mk (DevOk_below HDV.out hb)
  have HX := Aside0.mk (below_step HX.out hb)
  clear hb c20 c21
  cases ok with
  | false =>
    obtain ⟨⟨rfl, rfl⟩, rfl⟩ : (safe = SF ∧ ps = PF) ∧ 0 = RF := by simpa [playOf] using HDO.out
    obtain ⟨Z0, zc0, Z1, zc1, P2, Q2, hdv, hdk, _⟩ := HDV.out
    have cg2 : w6.cell? ⟨g, 2, none⟩ = some (.slice Z0 safe.length zc0) := (blk_cell hdv 2).trans rfl
    have cg3 : w6.cell? ⟨g, 3, none⟩ = some (.slice Z1 ps.length zc1) := (blk_cell hdv 3).trans rfl
    have HDK := Aside0.mk hdk
    have B4 := Aside0.mk (blk_below B4.out HX.out)
    clear hdv hdk
    go_wp2_with (first | ((with_reducible refine gate_ (.store 44 (.tmp 6) (.tmp 24)) rfl ?_); refine store_blk rfl rfl 44 (.tmp 6) (.tmp 24) rfl (off := 0) (u := .agg #[.slice Z0 safe.length zc0, .slice Z1 ps.length zc1]) #[.slice Z0 safe.length zc0, .slice Z1 ps.length zc1] rfl rfl B4.out [.slice Z0 safe.length zc0, .slice Z1 ps.length zc1] rfl (by kernel_rfl) (Nat.le_of_ble_eq_true rfl) rfl rfl ?_; intro w9 hblk hgrw; have HDK := Aside0.mk (D_lower (D_off HDK.out B4.out (by decide) hgrw) HB.out.size); have HBF := Aside0.mk (Below.grown (below_step HB.out HX.out) hgrw (below_step HB.out HX.out).size (by intro q hq; cases hq; exact G4w.out)); have B4 := Aside0.mk hblk; clear hblk hgrw))
    refine bodyPost_ret (results_cell_slot rfl _ _ g4 44 #[.slice Z0 safe.length zc0, .slice Z1 ps.length zc1] (0, 0) _ _ rfl rfl B4.out Try.underlying44 rfl (by kernel_rfl)) rfl ?_
    exact ⟨_, _, P2, Q2, rfl, HDK.out, HBF.out⟩
  | true =>
    by_cases c5 : ops.length ≤ 5000
    · have HC5 := Aside0.mk c5
      have x0 : decide ((5000 : Int) < (ops.length : Int)) = false := decide_eq_false (by omega)
      go_wp2_with fail
      have hnb : (ops.take n.toNat).length = min n.toNat ops.length := List.length_take
      obtain ⟨m, hm⟩ : ∃ m : Int, (if (ops.length : Int) < n then (ops.length : Int) else n) = m := ⟨_, rfl⟩
      have HMN : Aside0 (m ≤ n ∧ m ≤ (ops.length : Int) ∧ m.toNat = (ops.take n.toNat).length) := ⟨by rw [hnb]; split at hm <;> omega⟩
      clear hnb
      go_loopg [9] (ops.take n.toNat).length (fun gk v9 w' => ∃ (x : Nat) (sf : List (List Int)) (pf : List S185), v9 = .int .i64 (x : Int) ∧ Aside0 (gk + x = (ops.take n.toNat).length) ∧ Aside0 (DevOk w' w3.heap.size g bm sf pf) ∧ Aside0 ((playL ((ops.take n.toNat).drop x) (sf, pf)).1 = (SF, PF) ∧ (((playL ((ops.take n.toNat).drop x) (sf, pf)).2 + x : Nat) : Int) = RF) ∧ Aside0 (sf.length ≤ 1048576 ∧ Plays sf.length pf ∧ Bd sf pf) ∧ Aside0 (Below w3.heap.size w3 w'))
      case atStart =>
        refine ⟨0, safe, ps, rfl, ⟨rfl⟩, HDV, ⟨?_⟩, ⟨HL0.out, HRG.out (by first | rfl | trivial), HB0.out, HB1.out⟩, HX⟩
        rw [List.drop_zero]
        have h := HDO.out
        unfold playOf at h
        rw [if_pos rfl, if_pos c5] at h
        injection h with h1 h2
        exact ⟨h1, by rw [← h2]; simp⟩
      case round =>
        clear HDV HX HRG HDO
        obtain ⟨x, sf, pf, rfl, HXK, HDV, HPL, HPS, HX⟩ := hrel
        cases gk with
        | zero =>
          have hx : x = (ops.take n.toNat).length := by have := HXK.out; omega
          have d0 : decide ((x : Int) < m) = false := decide_eq_false (by have := HMN.out; omega)
          have hp := HPL.out
          rw [hx, List.drop_length] at hp
          injection hp.1 with e1 e2
          have e1' : sf = SF := e1
          have e2' : pf = PF := e2
          have e3 : ((x : Nat) : Int) = RF := by rw [← hp.2, hx]; simp [playL]
          subst e1' e2' e3
          clear hp e1 e2 hx
          obtain ⟨Z0, zc0, Z1, zc1, P2, Q2, hdv, hdk, _⟩ := HDV.out
          have cg2 : wr.cell? ⟨g, 2, none⟩ = some (.slice Z0 sf.length zc0) := (blk_cell hdv 2).trans rfl
          have cg3 : wr.cell? ⟨g, 3, none⟩ = some (.slice Z1 pf.length zc1) := (blk_cell hdv 3).trans rfl
          have HDK := Aside0.mk hdk
          have B4 := Aside0.mk (blk_below B4.out HX.out)
          clear hdv hdk
          go_wp2_with (first | ((with_reducible refine gate_ (.store 44 (.tmp 6) (.tmp 44)) rfl ?_); refine store_blk rfl rfl 44 (.tmp 6) (.tmp 44) rfl (off := 0) (u := .agg #[.slice Z0 sf.length zc0, .slice Z1 pf.length zc1]) #[.slice Z0 sf.length zc0, .slice Z1 pf.length zc1] rfl rfl B4.out [.slice Z0 sf.length zc0, .slice Z1 pf.length zc1] rfl (by kernel_rfl) (Nat.le_of_ble_eq_true rfl) rfl rfl ?_; intro w9 hblk hgrw; have HDK := Aside0.mk (D_lower (D_off HDK.out B4.out (by decide) hgrw) HB.out.size); have HBF := Aside0.mk (Below.grown (below_step HB.out HX.out) hgrw (below_step HB.out HX.out).size (by intro q hq; cases hq; exact G4w.out)); have B4 := Aside0.mk hblk; clear hblk hgrw))
          refine bodyPost_ret (results_cell_slot rfl _ _ g4 44 #[.slice Z0 sf.length zc0, .slice Z1 pf.length zc1] (0, 0) _ _ rfl rfl B4.out Try.underlying44 rfl (by kernel_rfl)) rfl ?_
          exact ⟨_, _, P2, Q2, rfl, HDK.out, HBF.out⟩
        | succ gk =>
          have hx : x < (ops.take n.toNat).length := by have := HXK.out; omega
          have d0 : decide ((x : Int) < m) = true := decide_eq_true (by have := HMN.out; omega)
          have q0 : (x : Int) < (ops.length : Int) := by have := HMN.out; omega
          have qn : (x : Int) < n := by have := HMN.out; omega
          have p0 : 0 ≤ (x : Int) := by omega
          have d1 : decide ((x : Int) < (ops.length : Int)) = true := decide_eq_true q0
          have d2 : decide (0 ≤ (x : Int)) = true := decide_eq_true p0
          have d3 : decide ((x : Int) < n) = true := decide_eq_true qn
          obtain ⟨ad, A5, c5', e5, hx0, hx1, hx2, hl5, hi5⟩ := at_T63 HRb.out (x : Int) p0 q0
          cases e5
          replace hx0 := (HX.out.cell (World.block_lt_of_cell? w3 _ hx0)).trans hx0
          replace hx1 := (HX.out.cell (World.block_lt_of_cell? w3 _ hx1)).trans hx1
          replace hx2 := (HX.out.cell (World.block_lt_of_cell? w3 _ hx2)).trans hx2
          simp only [Int.toNat_natCast] at hx0 hx1 hx2
          have hpl := drop_play hx
          have hwa : (Lit.int .i64 (rd_T63 ops (x : Int)).f1).wf = true := HWO.out _ (getD_mem (z := z63) p0 q0)
          have HWA5 := Aside0.mk hwa
          have HL5 := Aside0.mk hl5
          have HI5 := Aside0.mk hi5
          have HPP := Aside0.mk hpl
          have HX0 := Aside0.mk hx
          have HQ0 := Aside0.mk q0
          clear hwa hl5 hi5 hpl hx
          replace p0 := eq_true p0
          replace q0 := eq_true q0
          replace qn := eq_true qn
          go_wp2_with fail
          obtain ⟨⟨⟨s2, p2⟩, r2⟩, hdv2⟩ : ∃ r, doV sf pf (rd_T63 ops (x : Int)).f0 (rd_T63 ops (x : Int)).f1 (rd_T63 ops (x : Int)).f2 = r := ⟨_, rfl⟩
          have hinv := doV_plays (rd_T63 ops (x : Int)).f0 (rd_T63 ops (x : Int)).f1 (rd_T63 ops (x : Int)).f2 HPS.out.2.1
          have hinv2 := doV_Bd (rd_T63 ops (x : Int)).f0 (rd_T63 ops (x : Int)).f1 (rd_T63 ops (x : Int)).f2 HPS.out.2.2
          rw [hdv2] at hinv hinv2
          have HPS2 := Aside0.mk (show s2.length ≤ 1048576 ∧ Plays s2.length p2 ∧ Bd s2 p2 from ⟨by rw [hinv.1]; exact HPS.out.1, by rw [hinv.1]; exact hinv.2, hinv2⟩)
          have hcall := impl_do.calls g bm sf pf (rd_T63 ops (x : Int)).f0 (rd_T63 ops (x : Int)).f1 A5 c5' (rd_T63 ops (x : Int)).f2 w3 _ HDV.out HX.out HI5.out HL5.out HWA5.out (Nat.le_trans HPS.out.2.1.1 (by decide)) HPS.out.1 HPS.out.2.1.2
          rw [hdv2] at hcall
          refine hcall.mono ?_
          clear hcall hinv hinv2
          rintro e w7 ⟨rfl, hdv, hb⟩
          have hp := HPL.out
          rw [HPP.out] at hp
          simp only [playL, hdv2] at hp
          have HDV := Aside0.mk hdv
          have HX := Aside0.mk hb
          clear hdv hb hdv2 hx0 hx1 hx2 HPL
          cases r2 with
          | true =>
            rw [if_pos rfl] at hp
            have HPL := Aside0.mk hp
            clear hp
            go_wp2_with fail
            go_roundg gk
            case measure => omega
            case rel =>
              have hw1 : wrap64 ((x : Int) + 1) = ((x + 1 : Nat) : Int) := by have := HQ0.out; have := HC5.out; unfold wrap64; omega
              exact ⟨x + 1, s2, p2, by first | rfl | (rw [hw1]), ⟨by have := HXK.out; omega⟩, HDV, ⟨by have := HPL.out; exact ⟨this.1, by have h2 := this.2; omega⟩⟩, HPS2, HX⟩
          | false =>
            rw [if_neg (by decide)] at hp
            injection hp.1 with e1 e2
            have e1' : s2 = SF := e1
            have e2' : p2 = PF := e2
            have e3 : ((x : Nat) : Int) = RF := by have := hp.2; dsimp only at this; omega
            subst e1' e2' e3
            clear hp e1 e2
            obtain ⟨Z0, zc0, Z1, zc1, P2, Q2, hdv, hdk, _⟩ := HDV.out
            have cg2 : w7.cell? ⟨g, 2, none⟩ = some (.slice Z0 s2.length zc0) := (blk_cell hdv 2).trans rfl
            have cg3 : w7.cell? ⟨g, 3, none⟩ = some (.slice Z1 p2.length zc1) := (blk_cell hdv 3).trans rfl
            have HDK := Aside0.mk hdk
            have B4 := Aside0.mk (blk_below B4.out HX.out)
            clear hdv hdk
            go_wp2_with (first | ((with_reducible refine gate_ (.store 44 (.tmp 6) (.tmp 44)) rfl ?_); refine store_blk rfl rfl 44 (.tmp 6) (.tmp 44) rfl (off := 0) (u := .agg #[.slice Z0 s2.length zc0, .slice Z1 p2.length zc1]) #[.slice Z0 s2.length zc0, .slice Z1 p2.length zc1] rfl rfl B4.out [.slice Z0 s2.length zc0, .slice Z1 p2.length zc1] rfl (by kernel_rfl) (Nat.le_of_ble_eq_true rfl) rfl rfl ?_; intro w9 hblk hgrw; have HDK := Aside0.mk (D_lower (D_off HDK.out B4.out (by decide) hgrw) HB.out.size); have HBF := Aside0.mk (Below.grown (below_step HB.out HX.out) hgrw (below_step HB.out HX.out).size (by intro q hq; cases hq; exact G4w.out)); have B4 := Aside0.mk hblk; clear hblk hgrw))
            refine bodyPost_ret (results_cell_slot rfl _ _ g4 44 #[.slice Z0 s2.length zc0, .slice Z1 p2.length zc1] (0, 0) _ _ rfl rfl B4.out Try.underlying44 rfl (by kernel_rfl)) rfl ?_
            exact ⟨_, _, P2, Q2, rfl, HDK.out, HBF.out⟩

    · obtain ⟨⟨rfl, rfl⟩, rfl⟩ : (safe = SF ∧ ps = PF) ∧ 0 = RF := by simpa [playOf, c5] using HDO.out
      have x0 : decide ((5000 : Int) < (ops.length : Int)) = true := decide_eq_true (by omega)
      obtain ⟨Z0, zc0, Z1, zc1, P2, Q2, hdv, hdk, _⟩ := HDV.out
      have cg2 : w6.cell? ⟨g, 2, none⟩ = some (.slice Z0 safe.length zc0) := (blk_cell hdv 2).trans rfl
      have cg3 : w6.cell? ⟨g, 3, none⟩ = some (.slice Z1 ps.length zc1) := (blk_cell hdv 3).trans rfl
      have HDK := Aside0.mk hdk
      have B4 := Aside0.mk (blk_below B4.out HX.out)
      clear hdv hdk
      go_wp2_with (first | ((with_reducible refine gate_ (.store 44 (.tmp 6) (.tmp 24)) rfl ?_); refine store_blk rfl rfl 44 (.tmp 6) (.tmp 24) rfl (off := 0) (u := .agg #[.slice Z0 safe.length zc0, .slice Z1 ps.length zc1]) #[.slice Z0 safe.length zc0, .slice Z1 ps.length zc1] rfl rfl B4.out [.slice Z0 safe.length zc0, .slice Z1 ps.length zc1] rfl (by kernel_rfl) (Nat.le_of_ble_eq_true rfl) rfl rfl ?_; intro w9 hblk hgrw; have HDK := Aside0.mk (D_lower (D_off HDK.out B4.out (by decide) hgrw) HB.out.size); have HBF := Aside0.mk (Below.grown (below_step HB.out HX.out) hgrw (below_step HB.out HX.out).size (by intro q hq; cases hq; exact G4w.out)); have B4 := Aside0.mk hblk; clear hblk hgrw))
      refine bodyPost_ret (results_cell_slot rfl _ _ g4 44 #[.slice Z0 safe.length zc0, .slice Z1 ps.length zc1] (0, 0) _ _ rfl rfl B4.out Try.underlying44 rfl (by kernel_rfl)) rfl ?_
      exact ⟨_, _, P2, Q2, rfl, HDK.out, HBF.out⟩
set_option maxHeartbeats 8000000 in
set_option maxRecDepth 100000 in
theorem spec_Play.calls (k : Nat) (A0 : Option Addr) (c0 : Nat) (safe : List (List Int)) (A1 : Option Addr) (c1 : Nat) (ps : List S185) (Ao : Option Addr) (co : Nat) (ops : List S63) (n : Int) (ok : Bool) (w : World) (hr0 : Kd.C (Kd.slice 5 (Kd.int .u8)) w A0 safe.length safe) (hc0 : safe.length ≤ c0) (hr1 : Kd.C k185 w A1 ps.length ps) (hc1 : ps.length ≤ c1) (hro : Kd.C k63 w Ao ops.length ops) (hco : ops.length ≤ co)
    (hl0 : safe.length ≤ 1048576) (hl1 : ps.length ≤ 1048576) (hb0 : ∀ l ∈ safe, l.length ≤ 1048576) (hb1 : ∀ p ∈ ps, p.f1.length ≤ 1048576) (hrg : ok = true → Plays safe.length ps)
    (hok : spec_DiskOk.f k safe ps = some ok) :
    Calls Try.prog 43 #[.agg #[.slice A0 safe.length c0, .slice A1 ps.length c1], .slice Ao ops.length co, .int .i64 n] w fun e w' => ∃ v0 v1 : Value, ∃ P Q, e = .returned (.tuple #[.agg #[v0, v1], .int .i64 (playOf ok safe ps ops n).2]) ∧ IsDisk w' w.heap.size P Q v0 v1 (playOf ok safe ps ops n).1.1 (playOf ok safe ps ops n).1.2 ∧ Below w.heap.size w w' := by
  have hu44 := Try.underlying44
  have hu63 := Try.underlying63
  have HR0 := Aside0.mk hr0
  have HR1 := Aside0.mk hr1
  have HC0 := Aside0.mk hc0
  have HC1 := Aside0.mk hc1
  have HRO := Aside0.mk hro
  have HCO := Aside0.mk hco
  have HL0 := Aside0.mk hl0
  have HL1 := Aside0.mk hl1
  have HB0 := Aside0.mk hb0
  have HB1 := Aside0.mk hb1
  have N1 := Aside0.mk hok
  have HRG := Aside0.mk hrg
  clear hr0 hr1 hc0 hc1 hro hco hl0 hl1 hb0 hb1 hok hrg
  obtain ⟨⟨⟨SF, PF⟩, RF⟩, hdo⟩ : ∃ r, playOf ok safe ps ops n = r := ⟨_, rfl⟩
  rw [hdo]
  dsimp only
  have HDO := Aside0.mk hdo
  clear hdo
  go_enter Try.func43, Try.ntmps43
  go_wp2_with (first | ((with_reducible refine gate_dst (N := 3) rfl ?_); refine box_event ?hg (N := 3) ?hd (cs := #[.slice A0 safe.length c0, .slice A1 ps.length c1]) (t := 44) ?hr ?_; (case hd => rfl); (case hg => rfl); (case hr => first | (go_simp; done) | (go_simp; rfl)); intro g2 hgr w1 hbox hbel; have B2 := Aside0.mk hbox; have HB := Aside0.mk hbel; clear hbox hbel hgr) | ((with_reducible refine gate_dst (N := 6) rfl ?_); refine box_event ?hg (N := 6) ?hd (cs := #[.slice none 0 0, .slice none 0 0]) (t := 44) ?hr ?_; (case hd => rfl); (case hg => rfl); (case hr => first | (go_simp; done) | (go_simp; rfl)); intro g4 hgr w3 hbox hbel; have B4 := Aside0.mk hbox; have G4w : Aside0 (w.heap.size ≤ g4) := ⟨by rw [hgr]; exact HB.out.size⟩; have B2 := Aside0.mk (blk_below B2.out hbel); have HB := Aside0.mk (below_step HB.out hbel); have c20 : w3.cell? ⟨g2, 0, none⟩ = some (.slice A0 safe.length c0) := (blk_cell B2.out 0).trans rfl; have c21 : w3.cell? ⟨g2, 1, none⟩ = some (.slice A1 ps.length c1) := (blk_cell B2.out 1).trans rfl; clear hbox hbel hgr))
  have HRb := Aside0.mk (Kd.C_below HRO.out HB.out)
  refine (spec_l1Copy.apart A0 c0 safe A1 c1 ps _ (Kd.C_below HR0.out HB.out) HC0.out (Kd.C_below HR1.out HB.out) HC1.out HL0.out HL1.out HB0.out HB1.out).mono ?_
  rintro e w4 ⟨v0, v1, P, Q, rfl, hd, hb⟩
  obtain ⟨Y0, yc0, rfl⟩ := Kd.S_slice hd.2.1
  obtain ⟨Y1, yc1, rfl⟩ := Kd.S_slice hd.2.2
  have HD := Aside0.mk hd
  have HX := Aside0.mk hb
  have HX4 := HX
  clear hb hd c20 c21
  go_wp2_with (first | ((with_reducible refine gate_dst (N := 8) rfl ?_); refine box_event ?hg (N := 8) ?hd (cs := #[.slice none 0 0, .slice none 0 0]) (t := 44) ?hr ?_; (case hd => rfl); (case hg => rfl); (case hr => first | (go_simp; done) | (go_simp; rfl)); intro g8 hgr w5a hbox hbel; have B6z := Aside0.mk hbox; have HD := Aside0.mk (IsDisk_below HD.out hbel); have HX := Aside0.mk (below_step HX.out hbel); have G6w : Aside0 (w3.heap.size ≤ g8) := ⟨by rw [hgr]; exact HX4.out.size⟩; clear hbox hbel hgr) | ((with_reducible refine gate_ (.store 44 (.tmp 8) (.tmp 11)) rfl ?_); refine store_blk rfl rfl 44 (.tmp 8) (.tmp 11) rfl (off := 0) (u := .agg #[.slice Y0 safe.length yc0, .slice Y1 ps.length yc1]) #[.slice Y0 safe.length yc0, .slice Y1 ps.length yc1] rfl rfl B6z.out [.slice Y0 safe.length yc0, .slice Y1 ps.length yc1] rfl (by kernel_rfl) (Nat.le_of_ble_eq_true rfl) rfl rfl ?_; intro w5 hblk hgrw; have HX := Aside0.mk (HX.out.grown hgrw HX.out.size (by intro q hq; cases hq; exact G6w.out)); have HDV := Aside0.mk (show DskOk w5 w3.heap.size g8 safe ps from ⟨Y0, yc0, Y1, yc1, P, Q, hblk, D_off HD.out B6z.out (by decide) hgrw, G6w.out⟩); have c20 : w5.cell? ⟨g2, 0, none⟩ = some (.slice A0 safe.length c0) := (blk_cell (blk_below B2.out HX.out) 0).trans rfl; have c21 : w5.cell? ⟨g2, 1, none⟩ = some (.slice A1 ps.length c1) := (blk_cell (blk_below B2.out HX.out) 1).trans rfl; clear hblk hgrw))
  refine (spec_DiskOk.calls k A0 c0 safe A1 c1 ps ok _ (Kd.C_below HR0.out (below_step HB.out HX.out)) HC0.out (Kd.C_below HR1.out (below_step HB.out HX.out)) HC1.out N1.out).mono ?_
  rintro e w6 ⟨rfl, hb⟩
  have HDV := Aside0.mk (DskOk_below HDV.out hb)
  have HX := Aside0.mk (below_step HX.out hb)
  clear hb c20 c21
  cases ok with
  | false =>
    obtain ⟨⟨rfl, rfl⟩, rfl⟩ : (safe = SF ∧ ps = PF) ∧ 0 = RF := by simpa [playOf] using HDO.out
    obtain ⟨Z0, zc0, Z1, zc1, P2, Q2, hdv, hdk, _⟩ := HDV.out
    have cg2 : w6.cell? ⟨g8, 0, none⟩ = some (.slice Z0 safe.length zc0) := (blk_cell hdv 0).trans rfl
    have cg3 : w6.cell? ⟨g8, 1, none⟩ = some (.slice Z1 ps.length zc1) := (blk_cell hdv 1).trans rfl
    have HDK := Aside0.mk hdk
    have B4 := Aside0.mk (blk_below B4.out HX.out)
    clear hdv hdk
    go_wp2_with (first | ((with_reducible refine gate_ (.store 44 (.tmp 6) (.tmp 20)) rfl ?_); refine store_blk rfl rfl 44 (.tmp 6) (.tmp 20) rfl (off := 0) (u := .agg #[.slice Z0 safe.length zc0, .slice Z1 ps.length zc1]) #[.slice Z0 safe.length zc0, .slice Z1 ps.length zc1] rfl rfl B4.out [.slice Z0 safe.length zc0, .slice Z1 ps.length zc1] rfl (by kernel_rfl) (Nat.le_of_ble_eq_true rfl) rfl rfl ?_; intro w9 hblk hgrw; have HDK := Aside0.mk (D_lower (D_off HDK.out B4.out (by decide) hgrw) HB.out.size); have HBF := Aside0.mk (Below.grown (below_step HB.out HX.out) hgrw (below_step HB.out HX.out).size (by intro q hq; cases hq; exact G4w.out)); have B4 := Aside0.mk hblk; clear hblk hgrw))
    refine bodyPost_ret (results_cell_slot rfl _ _ g4 44 #[.slice Z0 safe.length zc0, .slice Z1 ps.length zc1] (0, 0) _ _ rfl rfl B4.out Try.underlying44 rfl (by kernel_rfl)) rfl ?_
    exact ⟨_, _, P2, Q2, rfl, HDK.out, HBF.out⟩
  | true =>
    by_cases c5 : ops.length ≤ 5000
    · have HC5 := Aside0.mk c5
      have x0 : decide ((5000 : Int) < (ops.length : Int)) = false := decide_eq_false (by omega)
      go_wp2_with fail
      have hnb : (ops.take n.toNat).length = min n.toNat ops.length := List.length_take
      obtain ⟨m, hm⟩ : ∃ m : Int, (if (ops.length : Int) < n then (ops.length : Int) else n) = m := ⟨_, rfl⟩
      have HMN : Aside0 (m ≤ n ∧ m ≤ (ops.length : Int) ∧ m.toNat = (ops.take n.toNat).length) := ⟨by rw [hnb]; split at hm <;> omega⟩
      clear hnb
      go_loopg [9] (ops.take n.toNat).length (fun gk v9 w' => ∃ (x : Nat) (sf : List (List Int)) (pf : List S185), v9 = .int .i64 (x : Int) ∧ Aside0 (gk + x = (ops.take n.toNat).length) ∧ Aside0 (DskOk w' w3.heap.size g8 sf pf) ∧ Aside0 ((playL ((ops.take n.toNat).drop x) (sf, pf)).1 = (SF, PF) ∧ (((playL ((ops.take n.toNat).drop x) (sf, pf)).2 + x : Nat) : Int) = RF) ∧ Aside0 (sf.length ≤ 1048576 ∧ Plays sf.length pf ∧ Bd sf pf) ∧ Aside0 (Below w3.heap.size w3 w'))
      case atStart =>
        refine ⟨0, safe, ps, rfl, ⟨rfl⟩, HDV, ⟨?_⟩, ⟨HL0.out, HRG.out (by first | rfl | trivial), HB0.out, HB1.out⟩, HX⟩
        rw [List.drop_zero]
        have h := HDO.out
        unfold playOf at h
        rw [if_pos rfl, if_pos c5] at h
        injection h with h1 h2
        exact ⟨h1, by rw [← h2]; simp⟩
      case round =>
        clear HDV HX HRG HDO
        obtain ⟨x, sf, pf, rfl, HXK, HDV, HPL, HPS, HX⟩ := hrel
        cases gk with
        | zero =>
          have hx : x = (ops.take n.toNat).length := by have := HXK.out; omega
          have d0 : decide ((x : Int) < m) = false := decide_eq_false (by have := HMN.out; omega)
          have hp := HPL.out
          rw [hx, List.drop_length] at hp
          injection hp.1 with e1 e2
          have e1' : sf = SF := e1
          have e2' : pf = PF := e2
          have e3 : ((x : Nat) : Int) = RF := by rw [← hp.2, hx]; simp [playL]
          subst e1' e2' e3
          have HZX := Aside0.mk hx
          clear hp e1 e2 hx
          have hz : ¬ ((x : Int) < (ops.length : Int) ∧ (x : Int) < n) := by have h := HMN.out.2.2; have h2 := HZX.out; split at hm <;> omega
          by_cases hzl : (x : Int) < (ops.length : Int)
          · have d1 : decide ((x : Int) < (ops.length : Int)) = true := decide_eq_true hzl
            have d5 : decide (x < ops.length) = true := decide_eq_true (by omega)
            have d6 : (x < ops.length) = True := eq_true (by omega)
            have d3 : decide ((x : Int) < n) = false := decide_eq_false (fun h => hz ⟨hzl, h⟩)
            clear hz hzl d0
            obtain ⟨X0, xc0, X1, xc1, P1, Q1, hdv, hdk, _⟩ := HDV.out
            have cg2 : wr.cell? ⟨g8, 0, none⟩ = some (.slice X0 sf.length xc0) := (blk_cell hdv 0).trans rfl
            have cg3 : wr.cell? ⟨g8, 1, none⟩ = some (.slice X1 pf.length xc1) := (blk_cell hdv 1).trans rfl
            have HDK := Aside0.mk hdk
            clear hdv hdk
            go_wp2_with fail
            refine (spec_l1Copy.apart X0 xc0 sf X1 xc1 pf _ (Kd.S_reads' HDK.out.2.1).2.2 (Kd.S_reads' HDK.out.2.1).2.1 (Kd.S_reads' HDK.out.2.2).2.2 (Kd.S_reads' HDK.out.2.2).2.1 HPS.out.1 (Nat.le_trans HPS.out.2.1.1 (by decide)) HPS.out.2.2.1 HPS.out.2.2.2).mono ?_
            rintro e w8 ⟨v0, v1, P2, Q2, rfl, hd, hb⟩
            obtain ⟨Z0, zc0, rfl⟩ := Kd.S_slice hd.2.1
            obtain ⟨Z1, zc1, rfl⟩ := Kd.S_slice hd.2.2
            have HX0_ := HX
            have HX := Aside0.mk (below_step HX.out hb)
            have HDK := Aside0.mk (D_lower hd HX0_.out.size)
            have B4 := Aside0.mk (blk_below B4.out HX.out)
            clear hd hb cg2 cg3 HDV
            go_wp2_with (first | ((with_reducible refine gate_ (.store 44 (.tmp 6) (.tmp 40)) rfl ?_); refine store_blk rfl rfl 44 (.tmp 6) (.tmp 40) rfl (off := 0) (u := .agg #[.slice Z0 sf.length zc0, .slice Z1 pf.length zc1]) #[.slice Z0 sf.length zc0, .slice Z1 pf.length zc1] rfl rfl B4.out [.slice Z0 sf.length zc0, .slice Z1 pf.length zc1] rfl (by kernel_rfl) (Nat.le_of_ble_eq_true rfl) rfl rfl ?_; intro w9 hblk hgrw; have HDK := Aside0.mk (D_lower (D_off HDK.out B4.out (by decide) hgrw) HB.out.size); have HBF := Aside0.mk (Below.grown (below_step HB.out HX.out) hgrw (below_step HB.out HX.out).size (by intro q hq; cases hq; exact G4w.out)); have B4 := Aside0.mk hblk; clear hblk hgrw))
            refine bodyPost_ret (results_cell_slot rfl _ _ g4 44 #[.slice Z0 sf.length zc0, .slice Z1 pf.length zc1] (0, 0) _ _ rfl rfl B4.out Try.underlying44 rfl (by kernel_rfl)) rfl ?_
            exact ⟨_, _, P2, Q2, rfl, HDK.out, HBF.out⟩
          · have d1 : decide ((x : Int) < (ops.length : Int)) = false := decide_eq_false hzl
            have d5 : decide (x < ops.length) = false := decide_eq_false (by omega)
            have d6 : (x < ops.length) = False := eq_false (by omega)
            clear hz hzl d0
            obtain ⟨X0, xc0, X1, xc1, P1, Q1, hdv, hdk, _⟩ := HDV.out
            have cg2 : wr.cell? ⟨g8, 0, none⟩ = some (.slice X0 sf.length xc0) := (blk_cell hdv 0).trans rfl
            have cg3 : wr.cell? ⟨g8, 1, none⟩ = some (.slice X1 pf.length xc1) := (blk_cell hdv 1).trans rfl
            have HDK := Aside0.mk hdk
            clear hdv hdk
            go_wp2_with fail
            refine (spec_l1Copy.apart X0 xc0 sf X1 xc1 pf _ (Kd.S_reads' HDK.out.2.1).2.2 (Kd.S_reads' HDK.out.2.1).2.1 (Kd.S_reads' HDK.out.2.2).2.2 (Kd.S_reads' HDK.out.2.2).2.1 HPS.out.1 (Nat.le_trans HPS.out.2.1.1 (by decide)) HPS.out.2.2.1 HPS.out.2.2.2).mono ?_
            rintro e w8 ⟨v0, v1, P2, Q2, rfl, hd, hb⟩
            obtain ⟨Z0, zc0, rfl⟩ := Kd.S_slice hd.2.1
            obtain ⟨Z1, zc1, rfl⟩ := Kd.S_slice hd.2.2
            have HX0_ := HX
            have HX := Aside0.mk (below_step HX.out hb)
            have HDK := Aside0.mk (D_lower hd HX0_.out.size)
            have B4 := Aside0.mk (blk_below B4.out HX.out)
            clear hd hb cg2 cg3 HDV
            go_wp2_with (first | ((with_reducible refine gate_ (.store 44 (.tmp 6) (.tmp 40)) rfl ?_); refine store_blk rfl rfl 44 (.tmp 6) (.tmp 40) rfl (off := 0) (u := .agg #[.slice Z0 sf.length zc0, .slice Z1 pf.length zc1]) #[.slice Z0 sf.length zc0, .slice Z1 pf.length zc1] rfl rfl B4.out [.slice Z0 sf.length zc0, .slice Z1 pf.length zc1] rfl (by kernel_rfl) (Nat.le_of_ble_eq_true rfl) rfl rfl ?_; intro w9 hblk hgrw; have HDK := Aside0.mk (D_lower (D_off HDK.out B4.out (by decide) hgrw) HB.out.size); have HBF := Aside0.mk (Below.grown (below_step HB.out HX.out) hgrw (below_step HB.out HX.out).size (by intro q hq; cases hq; exact G4w.out)); have B4 := Aside0.mk hblk; clear hblk hgrw))
            refine bodyPost_ret (results_cell_slot rfl _ _ g4 44 #[.slice Z0 sf.length zc0, .slice Z1 pf.length zc1] (0, 0) _ _ rfl rfl B4.out Try.underlying44 rfl (by kernel_rfl)) rfl ?_
            exact ⟨_, _, P2, Q2, rfl, HDK.out, HBF.out⟩
        | succ gk =>
          have hx : x < (ops.take n.toNat).length := by have := HXK.out; omega
          have d0 : decide ((x : Int) < m) = true := decide_eq_true (by have := HMN.out; omega)
          have q0 : (x : Int) < (ops.length : Int) := by have := HMN.out; omega
          have qn : (x : Int) < n := by have := HMN.out; omega
          have p0 : 0 ≤ (x : Int) := by omega
          have d1 : decide ((x : Int) < (ops.length : Int)) = true := decide_eq_true q0
          have d2 : decide (0 ≤ (x : Int)) = true := decide_eq_true p0
          have d3 : decide ((x : Int) < n) = true := decide_eq_true qn
          obtain ⟨ad, A5, c5', e5, hx0, hx1, hx2, hl5, hi5⟩ := at_T63 HRb.out (x : Int) p0 q0
          cases e5
          replace hx0 := (HX.out.cell (World.block_lt_of_cell? w3 _ hx0)).trans hx0
          replace hx1 := (HX.out.cell (World.block_lt_of_cell? w3 _ hx1)).trans hx1
          replace hx2 := (HX.out.cell (World.block_lt_of_cell? w3 _ hx2)).trans hx2
          simp only [Int.toNat_natCast] at hx0 hx1 hx2
          have hpl := drop_play hx
          have HL5 := Aside0.mk hl5
          have HI5 := Aside0.mk hi5
          have HPP := Aside0.mk hpl
          have HX0 := Aside0.mk hx
          have HQ0 := Aside0.mk q0
          clear hl5 hi5 hpl hx
          replace p0 := eq_true p0
          replace q0 := eq_true q0
          replace qn := eq_true qn
          go_wp2_with fail
          obtain ⟨⟨⟨s2, p2⟩, r2⟩, hdv2⟩ : ∃ r, doV sf pf (rd_T63 ops (x : Int)).f0 (rd_T63 ops (x : Int)).f1 (rd_T63 ops (x : Int)).f2 = r := ⟨_, rfl⟩
          have hinv := doV_plays (rd_T63 ops (x : Int)).f0 (rd_T63 ops (x : Int)).f1 (rd_T63 ops (x : Int)).f2 HPS.out.2.1
          have hinv2 := doV_Bd (rd_T63 ops (x : Int)).f0 (rd_T63 ops (x : Int)).f1 (rd_T63 ops (x : Int)).f2 HPS.out.2.2
          rw [hdv2] at hinv hinv2
          have HPS2 := Aside0.mk (show s2.length ≤ 1048576 ∧ Plays s2.length p2 ∧ Bd s2 p2 from ⟨by rw [hinv.1]; exact HPS.out.1, by rw [hinv.1]; exact hinv.2, hinv2⟩)
          have hcall := spec_l1Do.calls g8 sf pf (rd_T63 ops (x : Int)).f0 (rd_T63 ops (x : Int)).f1 A5 c5' (rd_T63 ops (x : Int)).f2 w3 _ HDV.out HX.out HI5.out HL5.out (Nat.le_trans HPS.out.2.1.1 (by decide)) HPS.out.1 HPS.out.2.1.2
          rw [hdv2] at hcall
          refine hcall.mono ?_
          clear hcall hinv hinv2
          rintro e w7 ⟨rfl, hdv, hb⟩
          have hp := HPL.out
          rw [HPP.out] at hp
          simp only [playL, hdv2] at hp
          have HDV := Aside0.mk hdv
          have HX := Aside0.mk hb
          clear hdv hb hdv2 hx0 hx1 hx2 HPL
          cases r2 with
          | true =>
            rw [if_pos rfl] at hp
            have HPL := Aside0.mk hp
            clear hp
            go_wp2_with fail
            go_roundg gk
            case measure => omega
            case rel =>
              have hw1 : wrap64 ((x : Int) + 1) = ((x + 1 : Nat) : Int) := by have := HQ0.out; have := HC5.out; unfold wrap64; omega
              exact ⟨x + 1, s2, p2, by first | rfl | (rw [hw1]), ⟨by have := HXK.out; omega⟩, HDV, ⟨by have := HPL.out; exact ⟨this.1, by have h2 := this.2; omega⟩⟩, HPS2, HX⟩
          | false =>
            rw [if_neg (by decide)] at hp
            injection hp.1 with e1 e2
            have e1' : s2 = SF := e1
            have e2' : p2 = PF := e2
            have e3 : ((x : Nat) : Int) = RF := by have := hp.2; dsimp only at this; omega
            subst e1' e2' e3
            clear hp e1 e2
            obtain ⟨X0, xc0, X1, xc1, P1, Q1, hdv, hdk, _⟩ := HDV.out
            have cg2 : w7.cell? ⟨g8, 0, none⟩ = some (.slice X0 s2.length xc0) := (blk_cell hdv 0).trans rfl
            have cg3 : w7.cell? ⟨g8, 1, none⟩ = some (.slice X1 p2.length xc1) := (blk_cell hdv 1).trans rfl
            have HDK := Aside0.mk hdk
            clear hdv hdk
            go_wp2_with fail
            refine (spec_l1Copy.apart X0 xc0 s2 X1 xc1 p2 _ (Kd.S_reads' HDK.out.2.1).2.2 (Kd.S_reads' HDK.out.2.1).2.1 (Kd.S_reads' HDK.out.2.2).2.2 (Kd.S_reads' HDK.out.2.2).2.1 HPS2.out.1 (Nat.le_trans HPS2.out.2.1.1 (by decide)) HPS2.out.2.2.1 HPS2.out.2.2.2).mono ?_
            rintro e w8 ⟨v0, v1, P2, Q2, rfl, hd, hb⟩
            obtain ⟨Z0, zc0, rfl⟩ := Kd.S_slice hd.2.1
            obtain ⟨Z1, zc1, rfl⟩ := Kd.S_slice hd.2.2
            have HX0_ := HX
            have HX := Aside0.mk (below_step HX.out hb)
            have HDK := Aside0.mk (D_lower hd HX0_.out.size)
            have B4 := Aside0.mk (blk_below B4.out HX.out)
            clear hd hb cg2 cg3 HDV
            go_wp2_with (first | ((with_reducible refine gate_ (.store 44 (.tmp 6) (.tmp 40)) rfl ?_); refine store_blk rfl rfl 44 (.tmp 6) (.tmp 40) rfl (off := 0) (u := .agg #[.slice Z0 s2.length zc0, .slice Z1 p2.length zc1]) #[.slice Z0 s2.length zc0, .slice Z1 p2.length zc1] rfl rfl B4.out [.slice Z0 s2.length zc0, .slice Z1 p2.length zc1] rfl (by kernel_rfl) (Nat.le_of_ble_eq_true rfl) rfl rfl ?_; intro w9 hblk hgrw; have HDK := Aside0.mk (D_lower (D_off HDK.out B4.out (by decide) hgrw) HB.out.size); have HBF := Aside0.mk (Below.grown (below_step HB.out HX.out) hgrw (below_step HB.out HX.out).size (by intro q hq; cases hq; exact G4w.out)); have B4 := Aside0.mk hblk; clear hblk hgrw))
            refine bodyPost_ret (results_cell_slot rfl _ _ g4 44 #[.slice Z0 s2.length zc0, .slice Z1 p2.length zc1] (0, 0) _ _ rfl rfl B4.out Try.underlying44 rfl (by kernel_rfl)) rfl ?_
            exact ⟨_, _, P2, Q2, rfl, HDK.out, HBF.out⟩

    · obtain ⟨⟨rfl, rfl⟩, rfl⟩ : (safe = SF ∧ ps = PF) ∧ 0 = RF := by simpa [playOf, c5] using HDO.out
      have x0 : decide ((5000 : Int) < (ops.length : Int)) = true := decide_eq_true (by omega)
      obtain ⟨Z0, zc0, Z1, zc1, P2, Q2, hdv, hdk, _⟩ := HDV.out
      have cg2 : w6.cell? ⟨g8, 0, none⟩ = some (.slice Z0 safe.length zc0) := (blk_cell hdv 0).trans rfl
      have cg3 : w6.cell? ⟨g8, 1, none⟩ = some (.slice Z1 ps.length zc1) := (blk_cell hdv 1).trans rfl
      have HDK := Aside0.mk hdk
      have B4 := Aside0.mk (blk_below B4.out HX.out)
      clear hdv hdk
      go_wp2_with (first | ((with_reducible refine gate_ (.store 44 (.tmp 6) (.tmp 20)) rfl ?_); refine store_blk rfl rfl 44 (.tmp 6) (.tmp 20) rfl (off := 0) (u := .agg #[.slice Z0 safe.length zc0, .slice Z1 ps.length zc1]) #[.slice Z0 safe.length zc0, .slice Z1 ps.length zc1] rfl rfl B4.out [.slice Z0 safe.length zc0, .slice Z1 ps.length zc1] rfl (by kernel_rfl) (Nat.le_of_ble_eq_true rfl) rfl rfl ?_; intro w9 hblk hgrw; have HDK := Aside0.mk (D_lower (D_off HDK.out B4.out (by decide) hgrw) HB.out.size); have HBF := Aside0.mk (Below.grown (below_step HB.out HX.out) hgrw (below_step HB.out HX.out).size (by intro q hq; cases hq; exact G4w.out)); have B4 := Aside0.mk hblk; clear hblk hgrw))
      refine bodyPost_ret (results_cell_slot rfl _ _ g4 44 #[.slice Z0 safe.length zc0, .slice Z1 ps.length zc1] (0, 0) _ _ rfl rfl B4.out Try.underlying44 rfl (by kernel_rfl)) rfl ?_
      exact ⟨_, _, P2, Q2, rfl, HDK.out, HBF.out⟩
end Go.Proofs.Ytlopmffdebhpfaa.G

/-! ## MarkO -/
namespace Go.Proofs.Ytlopmffdebhpfaa.G
open Go.RowKit Go.Proofs.YtlopmffdebhpfaaW.PrintWords Go.Proofs.YtlopmffdebhpfaaW.PrintLast Go.Proofs.YtlopmffdebhpfaaW.PrintMore
set_option linter.unusedVariables false
set_option linter.unusedSimpArgs false
open Go.Proofs.Ytlopmffdebhpfaa.Pure

def totO : List S63 → Nat
  | [] => 0
  | o :: r => (2 + o.f2.length) + totO r
def mkOS : List S63 → Int → List S63
  | [], _ => []
  | o :: r, m => ⟨m, m + 1, marks o.f2.length (m + 2)⟩ :: mkOS r (m + ((2 + o.f2.length : Nat) : Int))
theorem totO_snoc : ∀ (a : List S63) (l : S63), totO (a ++ [l]) = totO a + (2 + l.f2.length)
  | [], l => by simp [totO]
  | x :: a, l => by
    have := totO_snoc a l
    simp only [List.cons_append, totO, this]
    omega
theorem mkOS_length : ∀ (a : List S63) (m : Int), (mkOS a m).length = a.length
  | [], _ => rfl
  | x :: a, m => by simp [mkOS, mkOS_length a]
theorem mkOS_snoc : ∀ (a : List S63) (l : S63) (m : Int), mkOS (a ++ [l]) m = mkOS a m ++ [⟨m + totO a, m + totO a + 1, marks l.f2.length (m + totO a + 2)⟩]
  | [], l, m => by simp [mkOS, totO]
  | x :: a, l, m => by
    simp only [List.cons_append, mkOS, mkOS_snoc a l, totO]
    have e : m + ((2 + x.f2.length : Nat) : Int) + (totO a : Int) = m + (((2 + x.f2.length) + totO a : Nat) : Int) := by omega
    rw [e]
theorem totO_take_le (ls : List S63) (n : Nat) : totO (ls.take n) ≤ totO ls := by
  induction ls generalizing n with
  | nil => simp [totO]
  | cons x r ih =>
    cases n with
    | zero => simp [totO]
    | succ n => simp only [List.take_succ_cons, totO]; have := ih n; omega
theorem getD_at {α : Type} {z : α} {pre : List α} (x : α) (suf : List α) (n : Nat) (h : pre.length = n) : ((pre ++ [x]) ++ suf).getD n z = x := by
  rw [List.append_assoc, List.getD_eq_getElem?_getD, List.getElem?_append_right (Nat.le_of_eq h), h, Nat.sub_self]
  rfl
theorem set_at {α : Type} {pre : List α} (x y : α) (suf : List α) (n : Nat) (h : pre.length = n) : ((pre ++ [x]) ++ suf).set n y = (pre ++ [y]) ++ suf := by
  rw [List.append_assoc, List.set_append_right _ _ (Nat.le_of_eq h), h, Nat.sub_self, List.singleton_append, List.set_cons_zero, List.append_assoc, List.singleton_append]
/-- An op of a row, lent: its three cells, and its bytes' own block. -/
theorem lend63 {W : World} {base g n cap : Nat} {P : Nat → Prop} {xs : List S63} {x : Int} {li : S63} (h : Kd.S k63 63 W base P (.slice (some ⟨g, 0, none⟩) n cap) xs) (h0 : 0 ≤ x) (h1 : x < (n : Int)) (hli : xs.getD x.toNat z63 = li) :
    ∃ (oki : Nat → Prop) (vi : Value), Kd.H k63 63 W base P (.slice (some ⟨g, 0, none⟩) n cap) xs x oki [.int .i64 li.f0, .int .i64 li.f1, vi] ∧ (∀ q, oki q → P q) ∧ Kd.R (Kd.int .u8) 5 W base oki vi li.f2 ∧ W.cell? ⟨g, x.toNat * 3 + 2, none⟩ = some vi ∧
      W.frozen? ⟨g, x.toNat * 3, none⟩ = false ∧ W.frozen? ⟨g, x.toNat * 3 + 1, none⟩ = false ∧ W.frozen? ⟨g, x.toNat * 3 + 2, none⟩ = false := by
  obtain ⟨oki, cc, _, hM, hcc, hoki, hH⟩ := Kd.S_lend h z63 x h0 h1
  rw [hli] at hM
  obtain ⟨vi, rfl, hRi⟩ := k63_openM hM
  obtain ⟨_, _, _, _, hfr⟩ := Kd.R_elem (Kd.S_R h) z63 x h0 h1
  exact ⟨oki, vi, hH, fun q hq => (hoki q hq).1, hRi, hcc 2 _ rfl, hfr 0, hfr 1, hfr 2⟩
set_option maxHeartbeats 4000000 in
set_option maxRecDepth 100000 in
theorem laws_markOpS.calls (P : Nat → Prop) (v : Value) (ls : List S63) (m : Int) (w0 w : World) (hB : Below w0.heap.size w0 w) (ho : Kd.S k63 63 w w0.heap.size P v ls) (h0 : 0 ≤ m) (h1 : m + totO ls ≤ 4611686018427387904) :
    Calls Try.prog 47 #[v, .int .i64 m] w fun e w' => e = .returned (.int .i64 (m + totO ls)) ∧ Kd.S k63 63 w' w0.heap.size P v (mkOS ls m) ∧ Below w0.heap.size w0 w' ∧ Kept w w' P := by
  have hu63 := Try.underlying63
  obtain ⟨A, c, rfl⟩ := Kd.S_slice ho
  have HX : Aside0 (ls.length ≤ 9223372036854775807) := ⟨(Kd.S_reads' ho).2.2.2.1⟩
  have HS0 := Aside0.mk ho
  have HB0 := Aside0.mk hB
  have HM0 := Aside0.mk h0
  have HM1 := Aside0.mk h1
  clear ho hB h0 h1
  go_enter Try.func47, Try.ntmps47
  go_wp2_with fail
  go_loopg [1, 5] ls.length (fun gk v1 v5 w' => ∃ x : Int, v1 = .int .i64 (m + totO (ls.take x.toNat)) ∧ v5 = .int .i64 x ∧ Aside0 (0 ≤ x ∧ (gk : Int) + x = (ls.length : Int)) ∧ Aside0 (Kd.S k63 63 w' w0.heap.size P (.slice A ls.length c) (mkOS (ls.take x.toNat) m ++ ls.drop x.toNat)) ∧ Aside0 (Below w0.heap.size w0 w') ∧ Aside0 (Kept w w' P))
  case atStart =>
    exact ⟨0, by simp [totO], rfl, ⟨by omega⟩, ⟨by simpa [mkOS] using HS0.out⟩, HB0, ⟨Kept.refl _ _⟩⟩
  case round =>
    clear HS0 HB0
    obtain ⟨x, rfl, rfl, HXK, HS, HB, HK⟩ := hrel
    cases gk with
    | zero =>
      have hx : x = (ls.length : Int) := by have := HXK.out; omega
      subst hx
      have c4b0 : decide ((ls.length : Int) < (ls.length : Int)) = false := decide_eq_false (by omega)
      have HS2 := HS.out
      rw [Int.toNat_natCast, List.take_length, List.drop_length, List.append_nil] at HS2
      go_wp2_with fail
      go_ret
      exact ⟨by first | rfl | (rw [Int.toNat_natCast, List.take_length]; rfl), HS2, HB.out, HK.out⟩
    | succ gk =>
      have p0 : 0 ≤ x := HXK.out.1
      have q0 : x < (ls.length : Int) := by have := HXK.out; omega
      have HP0 := Aside0.mk p0
      have HQ0 := Aside0.mk q0
      have hxl : x.toNat < ls.length := by omega
      have hml : (mkOS (ls.take x.toNat) m).length = x.toNat := by rw [mkOS_length, List.length_take]; omega
      have hpos : 0 < (mkOS (ls.take x.toNat) m ++ ls.drop x.toNat).length := by simp [mkOS_length]; omega
      obtain ⟨g, cap, ev, _⟩ := Kd.S_form HS.out hpos
      injection ev with ev1 ev2 ev3
      subst ev1
      subst ev3
      have HPG : Aside0 (P g) := ⟨(Kd.S_R HS.out).1 g (by simp [Value.ownBlock])⟩
      have HGW : Aside0 (w0.heap.size ≤ g) := ⟨Kd.S_base HS.out g (by simp [Value.ownBlock])⟩
      have htot : totO (ls.take (x.toNat + 1)) = totO (ls.take x.toNat) + (2 + (ls.getD x.toNat z63).f2.length) := by rw [take_snoc_getD ls z63 _ hxl, totO_snoc]
      have hle := totO_take_le ls (x.toNat + 1)
      have hsn := take_snoc_getD ls z63 _ hxl
      have hcur := cur_getD (mkOS (ls.take x.toNat) m) ls z63 _ hml
      generalize ls.getD x.toNat z63 = li at htot hsn hcur
      obtain ⟨oki0, v0, hH0, hOK0, hR0, hc2, hf0, hf1, hf2⟩ := lend63 HS.out p0 q0 hcur
      obtain ⟨k, hf⟩ := markB_at (l := li.f2) (m := m + totO (ls.take x.toNat) + 1 + 1) (by have := HM0.out; omega) (by have := HM1.out; omega)
      have HWR : Aside0 (wrap64 (m + totO (ls.take x.toNat) + 1) = m + totO (ls.take x.toNat) + 1 ∧ wrap64 (m + totO (ls.take x.toNat) + 1 + 1) = m + totO (ls.take x.toNat) + 1 + 1) := ⟨by have := HM0.out; have := HM1.out; unfold wrap64; omega⟩
      generalize hmm : m + (totO (ls.take x.toNat) : Int) = mm at hf HWR ⊢
      have HCS := Aside0.mk (cur_set (mkOS (ls.take x.toNat) m) ls (⟨mm, li.f1, li.f2⟩ : S63) x.toNat hml hxl)
      have HCS1 := Aside0.mk (set_at (⟨mm, li.f1, li.f2⟩ : S63) ⟨mm, mm + 1, li.f2⟩ (ls.drop (x.toNat + 1)) x.toNat hml)
      have HCS2 := Aside0.mk (set_at (⟨mm, mm + 1, li.f2⟩ : S63) ⟨mm, mm + 1, marks li.f2.length (mm + 1 + 1)⟩ (ls.drop (x.toNat + 1)) x.toNat hml)
      have HSN := Aside0.mk hsn
      have HF := Aside0.mk hf
      have HR0 := Aside0.mk hR0
      have HH0 := Aside0.mk hH0
      have HTOT := Aside0.mk htot
      have HML := Aside0.mk hml
      have HXL := Aside0.mk hxl
      clear hsn hf hR0 hH0 hOK0 htot hle hml hxl hpos ev2 hcur
      have c4b0 : decide (x < (ls.length : Int)) = true := decide_eq_true q0
      have c4b1 : decide (0 ≤ x) = true := decide_eq_true p0
      replace p0 := eq_true p0
      replace q0 := eq_true q0
      have hw_ := HWR.out.1
      have hw2_ := HWR.out.2
      have HMM := Aside0.mk hmm
      clear hmm
      go_wp2_with (first | ((with_reducible refine gate_ (.store 3 (.tmp 16) (.tmp 14)) rfl ?_); (try rw [HWR.out.1]); refine Kd.H_store k63 w0.heap.size rfl rfl 3 (.tmp 16) (.tmp 14) rfl 63 x 0 (mkOS (ls.take x.toNat) m ++ ls.drop x.toNat) (⟨mm, li.f1, li.f2⟩ : S63) (.int .i64 mm) [.int .i64 mm] [.int .i64 li.f0, .int .i64 li.f1, v0] P oki0 oki0 rfl rfl rfl rfl (by kernel_rfl) (by simp [Value.oneCell']) HH0.out HP0.out HQ0.out (Nat.le_of_ble_eq_true rfl) (k63_mkM _ _ _ _ HR0.out) (fun _ h => h) HB.out ?_; intro w1 hs1 hb1 hg1; rw [HCS.out] at hs1; have HS1 := Aside0.mk hs1; have HB1 := Aside0.mk hb1; have HK1 := Aside0.mk (keptTrans HK.out (Kept.of_grown hg1 (Kept.refl _ (fun k_ => k_ = g)) (fun k_ e_ => .inl (Option.some.inj e_).symm)) (fun k_ e_ => by rw [e_]; exact HPG.out)); clear hs1 hb1 hg1; obtain ⟨oki1, v1, hH, hOK, hR, hc2, hf0, hf1, hf2⟩ := lend63 HS1.out HP0.out HQ0.out (getD_at _ _ _ HML.out); have HH1 := Aside0.mk hH; have HOK1 := Aside0.mk hOK; have HR1 := Aside0.mk hR; clear hH hOK hR) | ((with_reducible refine gate_ (.store 3 (.tmp 23) (.tmp 21)) rfl ?_); (try rw [HWR.out.1]); refine Kd.H_store k63 w0.heap.size rfl rfl 3 (.tmp 23) (.tmp 21) rfl 63 x 1 ((mkOS (ls.take x.toNat) m ++ [(⟨mm, li.f1, li.f2⟩ : S63)]) ++ ls.drop (x.toNat + 1)) (⟨mm, mm + 1, li.f2⟩ : S63) (.int .i64 (mm + 1)) [.int .i64 (mm + 1)] [.int .i64 mm, .int .i64 li.f1, v1] P oki1 oki1 rfl rfl rfl rfl (by kernel_rfl) (by simp [Value.oneCell']) HH1.out HP0.out HQ0.out (Nat.le_of_ble_eq_true rfl) (k63_mkM _ _ _ _ HR1.out) (fun _ h => h) HB1.out ?_; intro w2 hs1 hb1 hg1; rw [HCS1.out] at hs1; have HS2 := Aside0.mk hs1; have HB2 := Aside0.mk hb1; have HK2 := Aside0.mk (keptTrans HK1.out (Kept.of_grown hg1 (Kept.refl _ (fun k_ => k_ = g)) (fun k_ e_ => .inl (Option.some.inj e_).symm)) (fun k_ e_ => by rw [e_]; exact HPG.out)); clear hs1 hb1 hg1; obtain ⟨oki2, v2, hH, hOK, hR, hc2, hf0, hf1, hf2⟩ := lend63 HS2.out HP0.out HQ0.out (getD_at _ _ _ HML.out); have HH2 := Aside0.mk hH; have HOK2 := Aside0.mk hOK; have HR2 := Aside0.mk hR; clear hH hOK hR))
      (try rw [HWR.out.2])
      with_reducible refine (laws_markByteS.calls k (fun k_ => some k_ = v2.ownBlock) v2 li.f2 (mm + 1 + 1) _ _ w0 _ HB2.out (Kd.R_tight rfl HR2.out) HF.out).mono ?_
      rintro e w3 ⟨rfl, hy, hb, hkp⟩
      have HS3 := Kd.H_back (Kd.H_step HH2.out (fun k_ hk hn hlt => hkp.2 k_ hlt (fun e => hn (HR2.out.1 k_ e.symm)))) (x' := (⟨mm, mm + 1, marks li.f2.length (mm + 1 + 1)⟩ : S63)) (k63_mkM _ _ _ _ (Kd.R_reok rfl hy (fun k_ e_ => HR2.out.1 k_ e_))) (fun _ hk => hk)
      rw [HCS2.out] at HS3
      have HS3 := Aside0.mk HS3
      have HB3 := Aside0.mk hb
      have HK3 := Aside0.mk (keptTrans HK2.out hkp (fun k_ hk => HOK2.out k_ (HR2.out.1 k_ hk.symm)))
      clear hy hb hkp HS HB HK HH0 HR0 HR1 HR2 HH1 HH2 HB1 HK1 HS1 HB2 HK2 HS2
      try clear hc2 hf0 hf1 hf2
      go_wp2_with fail
      go_roundg gk
      case measure => omega
      case rel =>
        have hw1 : wrap64 (x + 1) = x + 1 := by have := HP0.out; have := HQ0.out; have := HX.out; unfold wrap64; omega
        have ht1 : (x + 1).toNat = x.toNat + 1 := by have := HP0.out; omega
        refine ⟨x + 1, ?_, by first | rfl | (rw [hw1]), ⟨by have := HXK.out; omega⟩, ⟨?_⟩, HB3, HK3⟩
        · rw [ht1, HTOT.out, ← HMM.out]
          congr 1
          omega
        · rw [ht1, HSN.out, mkOS_snoc, HMM.out, show mm + 2 = mm + 1 + 1 by omega]
          exact HS3.out
end Go.Proofs.Ytlopmffdebhpfaa.G

/-! ## G106 -/
namespace Go.Proofs.Ytlopmffdebhpfaa.G
open Go.RowKit Go.Proofs.YtlopmffdebhpfaaW.PrintWords Go.Proofs.YtlopmffdebhpfaaW.PrintLast Go.Proofs.YtlopmffdebhpfaaW.PrintMore
attribute [local go_sem] max2_int min2_int max_two min_two max_three min_three max_four min_four
set_option linter.unusedVariables false
set_option linter.unusedSimpArgs false

/-! ### laws_szByteS: function 106 -/
def laws_szByteS.f (l0 : List Int) (a1 : Int) : Option (Int) := if (wrap64 (a1 - (l0.length : Int))) < 0 then (some (-1)) else (some (wrap64 (a1 - (l0.length : Int))))
set_option maxHeartbeats 8000000 in
set_option maxRecDepth 100000 in
theorem laws_szByteS.calls (A0 : Option Addr) (c0 : Nat) (l0 : List Int) (a1 : Int) (r : Int) (w : World) (hr0 : Kd.C (Kd.int .u8) w A0 l0.length l0) (hc0 : l0.length ≤ c0) (h : laws_szByteS.f l0 a1 = some r) :
    Calls Try.prog 106 #[.slice A0 l0.length c0, .int .i64 a1] w fun e w' => e = .returned (.int .i64 r) ∧ Drawn0 w w' := by
  have HR0 := Aside0.mk hr0
  have HC0 := Aside0.mk hc0
  clear hr0 hc0
  have H : (if (wrap64 (a1 - (l0.length : Int))) < 0 then (some (-1)) else (some (wrap64 (a1 - (l0.length : Int))))) = some r := h
  clear h
  by_cases c3 : (wrap64 (a1 - (l0.length : Int))) < 0
  · rw [if_pos c3] at H
    have c3b0 : decide ((wrap64 (a1 - (l0.length : Int))) < 0) = true := decide_eq_true c3
    clear c3
    obtain rfl := Option.some.inj H
    go_enter Try.func106, Try.ntmps106
    go_wp2
    go_ret
    exact ⟨by first | rfl | (simp; done) | (simp [*]; done), by repeat (first | exact Drawn0.refl _ | apply Drawn0.step)⟩
  · rw [if_neg c3] at H
    have c3b0 : decide ((wrap64 (a1 - (l0.length : Int))) < 0) = false := decide_eq_false c3
    clear c3
    obtain rfl := Option.some.inj H
    go_enter Try.func106, Try.ntmps106
    go_wp2
    go_ret
    exact ⟨by first | rfl | (simp; done) | (simp [*]; done), by repeat (first | exact Drawn0.refl _ | apply Drawn0.step)⟩

end Go.Proofs.Ytlopmffdebhpfaa.G

/-! ## G81 -/
namespace Go.Proofs.Ytlopmffdebhpfaa.G
open Go.RowKit Go.Proofs.YtlopmffdebhpfaaW.PrintWords Go.Proofs.YtlopmffdebhpfaaW.PrintLast Go.Proofs.YtlopmffdebhpfaaW.PrintMore
attribute [local go_sem] max2_int min2_int max_two min_two max_three min_three max_four min_four
set_option linter.unusedVariables false
set_option linter.unusedSimpArgs false

/-! ### laws_szByteSS: function 81 -/
def laws_szByteSS.l0 : Nat → List (List Int) → Int → Int → Option (Int)
  | 0, _, _, _ => none
  | k + 1, x0, x1, x5 => if x5 < (x0.length : Int) then (if 0 ≤ x5 then ((laws_szByteS.f (rd_L2 x0 x5) x1).bind fun t335 => (if t335 < 0 then (some (-1)) else (laws_szByteSS.l0 k x0 t335 (wrap64 (x5 + 1))))) else (none)) else (some x1)
def laws_szByteSS.f (k : Nat) (l0 : List (List Int)) (a1 : Int) : Option (Int) := if (wrap64 (a1 - (l0.length : Int))) < 0 then (some (-1)) else (laws_szByteSS.l0 k l0 (wrap64 (a1 - (l0.length : Int))) 0)
set_option maxHeartbeats 8000000 in
set_option maxRecDepth 100000 in
theorem laws_szByteSS.calls (k : Nat) (A0 : Option Addr) (c0 : Nat) (l0 : List (List Int)) (a1 : Int) (r : Int) (w : World) (hr0 : Kd.C (Kd.slice 5 (Kd.int .u8)) w A0 l0.length l0) (hc0 : l0.length ≤ c0) (h : laws_szByteSS.f k l0 a1 = some r) :
    Calls Try.prog 81 #[.slice A0 l0.length c0, .int .i64 a1] w fun e w' => e = .returned (.int .i64 r) ∧ Drawn0 w w' := by
  have HR0 := Aside0.mk hr0
  have HC0 := Aside0.mk hc0
  clear hr0 hc0
  have H : (if (wrap64 (a1 - (l0.length : Int))) < 0 then (some (-1)) else (laws_szByteSS.l0 k l0 (wrap64 (a1 - (l0.length : Int))) 0)) = some r := h
  clear h
  by_cases c3 : (wrap64 (a1 - (l0.length : Int))) < 0
  · rw [if_pos c3] at H
    have c3b0 : decide ((wrap64 (a1 - (l0.length : Int))) < 0) = true := decide_eq_true c3
    clear c3
    obtain rfl := Option.some.inj H
    go_enter Try.func81, Try.ntmps81
    go_wp2
    go_ret
    exact ⟨by first | rfl | (simp; done) | (simp [*]; done), by repeat (first | exact Drawn0.refl _ | apply Drawn0.step)⟩
  · rw [if_neg c3] at H
    have c3b0 : decide ((wrap64 (a1 - (l0.length : Int))) < 0) = false := decide_eq_false c3
    clear c3
    have H' := Aside0.mk H
    clear H
    go_enter Try.func81, Try.ntmps81
    go_wp2
    go_loopg [1, 5] k (fun kq v1 v5 w' => ∃ (x1_1 : Int) (x5_1 : Int), v1 = .int .i64 x1_1 ∧ v5 = .int .i64 x5_1 ∧ Aside0 (laws_szByteSS.l0 kq l0 x1_1 x5_1 = some r) ∧ Aside0 (kq ≤ k) ∧ Drawn0 w w')
    case atStart => exact ⟨(wrap64 (a1 - (l0.length : Int))), (0), (by first | rfl | (simp; done) | (simp [*]; done)), (by first | rfl | (simp; done) | (simp [*]; done)), H', ⟨Nat.le_refl _⟩, by repeat (first | exact Drawn0.refl _ | apply Drawn0.step)⟩
    case round =>
      clear H'
      try clear p2
      try clear c3
      try clear c3b0
      obtain ⟨x1_1, x5_1, rfl, rfl, HA, HK1, ⟨m1, rfl⟩⟩ := hrel
      cases gk with
      | zero => exact absurd HA.out (by simp [laws_szByteSS.l0])
      | succ k1 =>
        have H := HA.out
        clear HA
        simp only [laws_szByteSS.l0] at H
        by_cases c4 : x5_1 < (l0.length : Int)
        · rw [if_pos c4] at H
          have c4b0 : decide (x5_1 < (l0.length : Int)) = true := decide_eq_true c4
          clear c4
          by_cases c5 : 0 ≤ x5_1
          · rw [if_pos c5] at H
            have c5b0 : decide (0 ≤ x5_1) = true := decide_eq_true c5
            clear c5
            replace H := Option.bind_eq_some_iff.mp H
            obtain ⟨t335, A60, H⟩ := H
            replace H : (if t335 < 0 then (some (-1)) else (laws_szByteSS.l0 k1 l0 t335 (wrap64 (x5_1 + 1)))) = some r := H
            have A6 := Aside0.mk A60
            clear A60
            by_cases c7 : t335 < 0
            · rw [if_pos c7] at H
              have c7b0 : decide (t335 < 0) = true := decide_eq_true c7
              clear c7
              obtain rfl := Option.some.inj H
              have p334 : 0 ≤ (x5_1 : Int) := of_decide_eq_true (by first | (with_reducible assumption) | assumption)
              have q334 : x5_1 < (l0.length : Int) := of_decide_eq_true (by first | (with_reducible assumption) | assumption)
              obtain ⟨ad334, A334_0, c334_0, e334, hx334_0, hl334_0, hi334_0⟩ := at_L2 HR0.out x5_1 p334 q334
              cases e334
              have HR334_0 := Aside0.mk hi334_0
              have HC334_0 := Aside0.mk hl334_0
              clear hi334_0 hl334_0
              replace p334 := eq_true p334
              replace q334 := eq_true q334
              go_wp2_with (first | ((with_reducible refine gate_callee (f := 106) rfl ?_); refine goesL_ (some 23) rfl rfl Try.func106 (by kernel_rfl) rfl #[.slice A334_0 (rd_L2 l0 x5_1).length c334_0, .int .i64 x1_1] rfl (by (try simp only [List.map_toArray, List.map_cons, List.map_nil]); first | done | rfl | (simp only [List.length_drop, List.length_take]; rfl)) ?_; (with_reducible refine (laws_szByteS.calls _ _ (rd_L2 l0 x5_1) x1_1 t335 _ ?side1 ?side2 A6.out).mono ?_); (case side1 => repeat (first | exact HR334_0.out | (with_reducible refine Kd.C_alloc ?_ _) | (with_reducible refine Kd.C_drewN ?_ _) | (with_reducible refine Kd.C_drew ?_))); (case side2 => exact HC334_0.out); rintro e w' ⟨rfl, ⟨nd, rfl⟩⟩; refine ⟨_, rfl, ?_⟩))
              go_ret
              exact ⟨by first | rfl | (simp; done) | (simp [*]; done), by repeat (first | exact Drawn0.refl _ | apply Drawn0.step)⟩
            · rw [if_neg c7] at H
              have c7b0 : decide (t335 < 0) = false := decide_eq_false c7
              clear c7
              have H' := Aside0.mk H
              clear H
              have p334 : 0 ≤ (x5_1 : Int) := of_decide_eq_true (by first | (with_reducible assumption) | assumption)
              have q334 : x5_1 < (l0.length : Int) := of_decide_eq_true (by first | (with_reducible assumption) | assumption)
              obtain ⟨ad334, A334_0, c334_0, e334, hx334_0, hl334_0, hi334_0⟩ := at_L2 HR0.out x5_1 p334 q334
              cases e334
              have HR334_0 := Aside0.mk hi334_0
              have HC334_0 := Aside0.mk hl334_0
              clear hi334_0 hl334_0
              replace p334 := eq_true p334
              replace q334 := eq_true q334
              go_wp2_with (first | ((with_reducible refine gate_callee (f := 106) rfl ?_); refine goesL_ (some 23) rfl rfl Try.func106 (by kernel_rfl) rfl #[.slice A334_0 (rd_L2 l0 x5_1).length c334_0, .int .i64 x1_1] rfl (by (try simp only [List.map_toArray, List.map_cons, List.map_nil]); first | done | rfl | (simp only [List.length_drop, List.length_take]; rfl)) ?_; (with_reducible refine (laws_szByteS.calls _ _ (rd_L2 l0 x5_1) x1_1 t335 _ ?side1 ?side2 A6.out).mono ?_); (case side1 => repeat (first | exact HR334_0.out | (with_reducible refine Kd.C_alloc ?_ _) | (with_reducible refine Kd.C_drewN ?_ _) | (with_reducible refine Kd.C_drew ?_))); (case side2 => exact HC334_0.out); rintro e w' ⟨rfl, ⟨nd, rfl⟩⟩; refine ⟨_, rfl, ?_⟩))
              go_roundg k1
              case measure => have := HK1.out; omega
              case rel => exact ⟨(t335), (wrap64 (x5_1 + 1)), (by first | rfl | (simp; done) | (simp [*]; done)), (by first | rfl | (simp; done) | (simp [*]; done)), H', ⟨by have := HK1.out; omega⟩, by repeat (first | exact Drawn0.refl _ | apply Drawn0.step)⟩
          · rw [if_neg c5] at H
            exact absurd H (by simp)
        · rw [if_neg c4] at H
          have c4b0 : decide (x5_1 < (l0.length : Int)) = false := decide_eq_false c4
          clear c4
          obtain rfl := Option.some.inj H
          go_wp2
          go_ret
          exact ⟨by first | rfl | (simp; done) | (simp [*]; done), by repeat (first | exact Drawn0.refl _ | apply Drawn0.step)⟩

end Go.Proofs.Ytlopmffdebhpfaa.G

/-! ## G137 -/
namespace Go.Proofs.Ytlopmffdebhpfaa.G
open Go.RowKit Go.Proofs.YtlopmffdebhpfaaW.PrintWords Go.Proofs.YtlopmffdebhpfaaW.PrintLast Go.Proofs.YtlopmffdebhpfaaW.PrintMore
attribute [local go_sem] max2_int min2_int max_two min_two max_three min_three max_four min_four
set_option linter.unusedVariables false
set_option linter.unusedSimpArgs false

/-! ### laws_szPend: function 137 -/
def laws_szPend.f (a0_0 : Int) (l0_1 : List Int) (a1 : Int) : Option (Int) := (laws_szByteS.f l0_1 a1).bind fun t337 => (if t337 < 0 then (some (-1)) else (some t337))
set_option maxHeartbeats 8000000 in
set_option maxRecDepth 100000 in
theorem laws_szPend.calls (a0_0 : Int) (A0_1 : Option Addr) (c0_1 : Nat) (l0_1 : List Int) (a1 : Int) (r : Int) (w : World) (hr0_1 : Kd.C (Kd.int .u8) w A0_1 l0_1.length l0_1) (hc0_1 : l0_1.length ≤ c0_1) (h : laws_szPend.f a0_0 l0_1 a1 = some r) :
    Calls Try.prog 137 #[.agg #[.int .i64 a0_0, .slice A0_1 l0_1.length c0_1], .int .i64 a1] w fun e w' => e = .returned (.int .i64 r) ∧ Below w.heap.size w w' := by
  have hu184 := Try.underlying184
  have HR0_1 := Aside0.mk hr0_1
  have HC0_1 := Aside0.mk hc0_1
  clear hr0_1 hc0_1
  have HB := Aside0.mk (Below.refl w.heap.size w)
  have H : ((laws_szByteS.f l0_1 a1).bind fun t337 => (if t337 < 0 then (some (-1)) else (some t337))) = some r := h
  clear h
  replace H := Option.bind_eq_some_iff.mp H
  obtain ⟨t337, A30, H⟩ := H
  replace H : (if t337 < 0 then (some (-1)) else (some t337)) = some r := H
  have A3 := Aside0.mk A30
  clear A30
  by_cases c4 : t337 < 0
  · rw [if_pos c4] at H
    have c4b0 : decide (t337 < 0) = true := decide_eq_true c4
    clear c4
    obtain rfl := Option.some.inj H
    go_enter Try.func137, Try.ntmps137
    go_wp2_with (first | ((with_reducible refine gate_dst (N := 2) rfl ?_); refine box_event ?hg (N := 2) ?hd (cs := #[.int .i64 a0_0, .slice A0_1 l0_1.length c0_1]) (t := 184) ?hr ?_; (case hd => rfl); (case hg => rfl); (case hr => first | (go_simp; done) | (go_simp; rfl)); intro gb336 hg w5 hbox hb; have n0_ := Aside0.mk (below_step (by repeat (first | (with_reducible first | exact HB.out | apply below_alloc | apply pw_below_drewN | apply below_drew1) | exact HB.out)) hb); have n1_ := Aside0.mk (hbox); have n2_ := Aside0.mk ((by rw [hg]; exact (below_size (by repeat (first | (with_reducible first | exact HB.out | apply below_alloc | apply pw_below_drewN | apply below_drew1) | exact HB.out))) : w.heap.size ≤ gb336)); have n3_ := Aside0.mk ((by rw [hg]; exact (below_size (by repeat (first | (with_reducible first | exact HB.out | apply below_alloc | apply pw_below_drewN | apply below_drew1) | exact HB.out))) : w.heap.size ≤ gb336)); clear HB; have HB := n0_; have BK336 := n1_; have GW336 := n2_; have GE336 := n3_; clear n0_ n1_ n2_ n3_; clear hb hbox hg; have hcz6_0 : w5.cell? ⟨gb336, 0, none⟩ = some (.int .i64 a0_0) := (blk_cell BK336.out 0).trans rfl; have hcz6_1 : w5.cell? ⟨gb336, 1, none⟩ = some (.slice A0_1 l0_1.length c0_1) := (blk_cell BK336.out 1).trans rfl; have hfz6_0 := blk_frozen BK336.out 0; have hfz6_1 := blk_frozen BK336.out 1) | ((with_reducible refine gate_callee (f := 106) rfl ?_); refine goesL_ (some 8) rfl rfl Try.func106 (by kernel_rfl) rfl #[.slice A0_1 l0_1.length c0_1, .int .i64 a1] rfl (by (try simp only [List.map_toArray, List.map_cons, List.map_nil]); first | done | rfl | (simp only [List.length_drop, List.length_take]; rfl)) ?_; (with_reducible refine (laws_szByteS.calls _ _ l0_1 a1 t337 _ ?side1 ?side2 A3.out).mono ?_); (case side1 => repeat (first | exact (Kd.C_below HR0_1.out HB.out) | (with_reducible refine Kd.C_alloc ?_ _) | (with_reducible refine Kd.C_drewN ?_ _) | (with_reducible refine Kd.C_drew ?_))); (case side2 => exact HC0_1.out); rintro e w' ⟨rfl, ⟨nd, rfl⟩⟩; refine ⟨_, rfl, ?_⟩))
    go_ret
    exact ⟨by first | rfl | (simp [errW_none, errW_some] <;> rfl) | (simp [*, errW_none, errW_some] <;> rfl), by repeat (first | (with_reducible first | exact HB.out | apply below_alloc | apply pw_below_drewN | apply below_drew1 | refine below_set ?_ GE336.out) | exact HB.out)⟩
  · rw [if_neg c4] at H
    have c4b0 : decide (t337 < 0) = false := decide_eq_false c4
    clear c4
    obtain rfl := Option.some.inj H
    go_enter Try.func137, Try.ntmps137
    go_wp2_with (first | ((with_reducible refine gate_dst (N := 2) rfl ?_); refine box_event ?hg (N := 2) ?hd (cs := #[.int .i64 a0_0, .slice A0_1 l0_1.length c0_1]) (t := 184) ?hr ?_; (case hd => rfl); (case hg => rfl); (case hr => first | (go_simp; done) | (go_simp; rfl)); intro gb336 hg w7 hbox hb; have n0_ := Aside0.mk (below_step (by repeat (first | (with_reducible first | exact HB.out | apply below_alloc | apply pw_below_drewN | apply below_drew1) | exact HB.out)) hb); have n1_ := Aside0.mk (hbox); have n2_ := Aside0.mk ((by rw [hg]; exact (below_size (by repeat (first | (with_reducible first | exact HB.out | apply below_alloc | apply pw_below_drewN | apply below_drew1) | exact HB.out))) : w.heap.size ≤ gb336)); have n3_ := Aside0.mk ((by rw [hg]; exact (below_size (by repeat (first | (with_reducible first | exact HB.out | apply below_alloc | apply pw_below_drewN | apply below_drew1) | exact HB.out))) : w.heap.size ≤ gb336)); clear HB; have HB := n0_; have BK336 := n1_; have GW336 := n2_; have GE336 := n3_; clear n0_ n1_ n2_ n3_; clear hb hbox hg; have hcz8_0 : w7.cell? ⟨gb336, 0, none⟩ = some (.int .i64 a0_0) := (blk_cell BK336.out 0).trans rfl; have hcz8_1 : w7.cell? ⟨gb336, 1, none⟩ = some (.slice A0_1 l0_1.length c0_1) := (blk_cell BK336.out 1).trans rfl; have hfz8_0 := blk_frozen BK336.out 0; have hfz8_1 := blk_frozen BK336.out 1) | ((with_reducible refine gate_callee (f := 106) rfl ?_); refine goesL_ (some 8) rfl rfl Try.func106 (by kernel_rfl) rfl #[.slice A0_1 l0_1.length c0_1, .int .i64 a1] rfl (by (try simp only [List.map_toArray, List.map_cons, List.map_nil]); first | done | rfl | (simp only [List.length_drop, List.length_take]; rfl)) ?_; (with_reducible refine (laws_szByteS.calls _ _ l0_1 a1 t337 _ ?side1 ?side2 A3.out).mono ?_); (case side1 => repeat (first | exact (Kd.C_below HR0_1.out HB.out) | (with_reducible refine Kd.C_alloc ?_ _) | (with_reducible refine Kd.C_drewN ?_ _) | (with_reducible refine Kd.C_drew ?_))); (case side2 => exact HC0_1.out); rintro e w' ⟨rfl, ⟨nd, rfl⟩⟩; refine ⟨_, rfl, ?_⟩))
    go_ret
    exact ⟨by first | rfl | (simp [errW_none, errW_some] <;> rfl) | (simp [*, errW_none, errW_some] <;> rfl), by repeat (first | (with_reducible first | exact HB.out | apply below_alloc | apply pw_below_drewN | apply below_drew1 | refine below_set ?_ GE336.out) | exact HB.out)⟩

end Go.Proofs.Ytlopmffdebhpfaa.G

/-! ## G82 -/
namespace Go.Proofs.Ytlopmffdebhpfaa.G
open Go.RowKit Go.Proofs.YtlopmffdebhpfaaW.PrintWords Go.Proofs.YtlopmffdebhpfaaW.PrintLast Go.Proofs.YtlopmffdebhpfaaW.PrintMore
attribute [local go_sem] max2_int min2_int max_two min_two max_three min_three max_four min_four
set_option linter.unusedVariables false
set_option linter.unusedSimpArgs false

/-! ### laws_szPendS: function 82 -/
def laws_szPendS.l0 : Nat → List (S184) → Int → Int → Option (Int)
  | 0, _, _, _ => none
  | k + 1, x0, x1, x5 => if x5 < (x0.length : Int) then (if 0 ≤ x5 then ((laws_szPend.f ((rd_T184 x0 x5).f0) ((rd_T184 x0 x5).f1) x1).bind fun t339 => (if t339 < 0 then (some (-1)) else (laws_szPendS.l0 k x0 t339 (wrap64 (x5 + 1))))) else (none)) else (some x1)
def laws_szPendS.f (k : Nat) (l0 : List (S184)) (a1 : Int) : Option (Int) := if (wrap64 (a1 - (l0.length : Int))) < 0 then (some (-1)) else (laws_szPendS.l0 k l0 (wrap64 (a1 - (l0.length : Int))) 0)
set_option maxHeartbeats 8000000 in
set_option maxRecDepth 100000 in
theorem laws_szPendS.calls (k : Nat) (A0 : Option Addr) (c0 : Nat) (l0 : List (S184)) (a1 : Int) (r : Int) (w : World) (hr0 : Kd.C k184 w A0 l0.length l0) (hc0 : l0.length ≤ c0) (h : laws_szPendS.f k l0 a1 = some r) :
    Calls Try.prog 82 #[.slice A0 l0.length c0, .int .i64 a1] w fun e w' => e = .returned (.int .i64 r) ∧ Below w.heap.size w w' := by
  have hu184 := Try.underlying184
  have HR0 := Aside0.mk hr0
  have HC0 := Aside0.mk hc0
  clear hr0 hc0
  have HB := Aside0.mk (Below.refl w.heap.size w)
  have H : (if (wrap64 (a1 - (l0.length : Int))) < 0 then (some (-1)) else (laws_szPendS.l0 k l0 (wrap64 (a1 - (l0.length : Int))) 0)) = some r := h
  clear h
  by_cases c3 : (wrap64 (a1 - (l0.length : Int))) < 0
  · rw [if_pos c3] at H
    have c3b0 : decide ((wrap64 (a1 - (l0.length : Int))) < 0) = true := decide_eq_true c3
    clear c3
    obtain rfl := Option.some.inj H
    go_enter Try.func82, Try.ntmps82
    go_wp2
    go_ret
    exact ⟨by first | rfl | (simp [errW_none, errW_some] <;> rfl) | (simp [*, errW_none, errW_some] <;> rfl), by repeat (first | (with_reducible first | exact HB.out | apply below_alloc | apply pw_below_drewN | apply below_drew1) | exact HB.out)⟩
  · rw [if_neg c3] at H
    have c3b0 : decide ((wrap64 (a1 - (l0.length : Int))) < 0) = false := decide_eq_false c3
    clear c3
    have H' := Aside0.mk H
    clear H
    go_enter Try.func82, Try.ntmps82
    go_wp2
    go_loopg [1, 5] k (fun kq v1 v5 w' => ∃ (x1_1 : Int) (x5_1 : Int), v1 = .int .i64 x1_1 ∧ v5 = .int .i64 x5_1 ∧ Aside0 (laws_szPendS.l0 kq l0 x1_1 x5_1 = some r) ∧ Aside0 (kq ≤ k) ∧ Aside0 (Below w.heap.size w w'))
    case atStart => exact ⟨(wrap64 (a1 - (l0.length : Int))), (0), (by first | rfl | (simp; done) | (simp [*]; done)), (by first | rfl | (simp; done) | (simp [*]; done)), H', ⟨Nat.le_refl _⟩, ⟨by repeat (first | (with_reducible first | exact HB.out | apply below_alloc | apply pw_below_drewN | apply below_drew1) | exact HB.out)⟩⟩
    case round =>
      clear H'
      try clear p2
      try clear c3
      try clear c3b0
      obtain ⟨x1_1, x5_1, rfl, rfl, HA, HK1, HB⟩ := hrel
      cases gk with
      | zero => exact absurd HA.out (by simp [laws_szPendS.l0])
      | succ k1 =>
        have H := HA.out
        clear HA
        simp only [laws_szPendS.l0] at H
        by_cases c4 : x5_1 < (l0.length : Int)
        · rw [if_pos c4] at H
          have c4b0 : decide (x5_1 < (l0.length : Int)) = true := decide_eq_true c4
          clear c4
          by_cases c5 : 0 ≤ x5_1
          · rw [if_pos c5] at H
            have c5b0 : decide (0 ≤ x5_1) = true := decide_eq_true c5
            clear c5
            replace H := Option.bind_eq_some_iff.mp H
            obtain ⟨t339, A60, H⟩ := H
            replace H : (if t339 < 0 then (some (-1)) else (laws_szPendS.l0 k1 l0 t339 (wrap64 (x5_1 + 1)))) = some r := H
            have A6 := Aside0.mk A60
            clear A60
            by_cases c7 : t339 < 0
            · rw [if_pos c7] at H
              have c7b0 : decide (t339 < 0) = true := decide_eq_true c7
              clear c7
              obtain rfl := Option.some.inj H
              have p338 : 0 ≤ (x5_1 : Int) := of_decide_eq_true (by first | (with_reducible assumption) | assumption)
              have q338 : x5_1 < (l0.length : Int) := of_decide_eq_true (by first | (with_reducible assumption) | assumption)
              obtain ⟨ad338, A338_1, c338_1, e338, hx338_0, hx338_1, hl338_1, hi338_1⟩ := at_T184 HR0.out x5_1 p338 q338
              cases e338
              replace hx338_0 := (HB.out.cell (World.block_lt_of_cell? w _ hx338_0)).trans hx338_0
              replace hx338_1 := (HB.out.cell (World.block_lt_of_cell? w _ hx338_1)).trans hx338_1
              have HR338_1 := Aside0.mk hi338_1
              have HC338_1 := Aside0.mk hl338_1
              clear hi338_1 hl338_1
              replace p338 := eq_true p338
              replace q338 := eq_true q338
              go_wp2_with (first | ((with_reducible refine gate_callee (f := 137) rfl ?_); refine goesL_ (some 23) rfl rfl Try.func137 (by kernel_rfl) rfl #[.agg #[.int .i64 ((rd_T184 l0 x5_1).f0), .slice A338_1 ((rd_T184 l0 x5_1).f1).length c338_1], .int .i64 x1_1] rfl (by (try simp only [List.map_toArray, List.map_cons, List.map_nil]); first | done | rfl | (simp only [List.length_drop, List.length_take]; rfl)) ?_; (with_reducible refine (laws_szPend.calls ((rd_T184 l0 x5_1).f0) _ _ ((rd_T184 l0 x5_1).f1) x1_1 t339 _ ?side1 ?side2 A6.out).mono ?_); (case side1 => repeat (first | exact (Kd.C_below HR338_1.out HB.out) | (with_reducible refine Kd.C_alloc ?_ _) | (with_reducible refine Kd.C_drewN ?_ _) | (with_reducible refine Kd.C_drew ?_))); (case side2 => exact HC338_1.out); rintro e w8 ⟨rfl, hb⟩; refine ⟨_, rfl, ?_⟩; have n0_ := Aside0.mk (below_step (by repeat (first | (with_reducible first | exact HB.out | apply below_alloc | apply pw_below_drewN | apply below_drew1) | exact HB.out)) hb); clear HB; have HB := n0_; clear n0_; (try clear hb); (try clear hb2); (try clear hk); (try clear hi)))
              go_ret
              exact ⟨by first | rfl | (simp [errW_none, errW_some] <;> rfl) | (simp [*, errW_none, errW_some] <;> rfl), by repeat (first | (with_reducible first | exact HB.out | apply below_alloc | apply pw_below_drewN | apply below_drew1) | exact HB.out)⟩
            · rw [if_neg c7] at H
              have c7b0 : decide (t339 < 0) = false := decide_eq_false c7
              clear c7
              have H' := Aside0.mk H
              clear H
              have p338 : 0 ≤ (x5_1 : Int) := of_decide_eq_true (by first | (with_reducible assumption) | assumption)
              have q338 : x5_1 < (l0.length : Int) := of_decide_eq_true (by first | (with_reducible assumption) | assumption)
              obtain ⟨ad338, A338_1, c338_1, e338, hx338_0, hx338_1, hl338_1, hi338_1⟩ := at_T184 HR0.out x5_1 p338 q338
              cases e338
              replace hx338_0 := (HB.out.cell (World.block_lt_of_cell? w _ hx338_0)).trans hx338_0
              replace hx338_1 := (HB.out.cell (World.block_lt_of_cell? w _ hx338_1)).trans hx338_1
              have HR338_1 := Aside0.mk hi338_1
              have HC338_1 := Aside0.mk hl338_1
              clear hi338_1 hl338_1
              replace p338 := eq_true p338
              replace q338 := eq_true q338
              go_wp2_with (first | ((with_reducible refine gate_callee (f := 137) rfl ?_); refine goesL_ (some 23) rfl rfl Try.func137 (by kernel_rfl) rfl #[.agg #[.int .i64 ((rd_T184 l0 x5_1).f0), .slice A338_1 ((rd_T184 l0 x5_1).f1).length c338_1], .int .i64 x1_1] rfl (by (try simp only [List.map_toArray, List.map_cons, List.map_nil]); first | done | rfl | (simp only [List.length_drop, List.length_take]; rfl)) ?_; (with_reducible refine (laws_szPend.calls ((rd_T184 l0 x5_1).f0) _ _ ((rd_T184 l0 x5_1).f1) x1_1 t339 _ ?side1 ?side2 A6.out).mono ?_); (case side1 => repeat (first | exact (Kd.C_below HR338_1.out HB.out) | (with_reducible refine Kd.C_alloc ?_ _) | (with_reducible refine Kd.C_drewN ?_ _) | (with_reducible refine Kd.C_drew ?_))); (case side2 => exact HC338_1.out); rintro e w9 ⟨rfl, hb⟩; refine ⟨_, rfl, ?_⟩; have n0_ := Aside0.mk (below_step (by repeat (first | (with_reducible first | exact HB.out | apply below_alloc | apply pw_below_drewN | apply below_drew1) | exact HB.out)) hb); clear HB; have HB := n0_; clear n0_; (try clear hb); (try clear hb2); (try clear hk); (try clear hi)))
              go_roundg k1
              case measure => have := HK1.out; omega
              case rel => exact ⟨(t339), (wrap64 (x5_1 + 1)), (by first | rfl | (simp; done) | (simp [*]; done)), (by first | rfl | (simp; done) | (simp [*]; done)), H', ⟨by have := HK1.out; omega⟩, ⟨by repeat (first | (with_reducible first | exact HB.out | apply below_alloc | apply pw_below_drewN | apply below_drew1) | exact HB.out)⟩⟩
          · rw [if_neg c5] at H
            exact absurd H (by simp)
        · rw [if_neg c4] at H
          have c4b0 : decide (x5_1 < (l0.length : Int)) = false := decide_eq_false c4
          clear c4
          obtain rfl := Option.some.inj H
          go_wp2
          go_ret
          exact ⟨by first | rfl | (simp [errW_none, errW_some] <;> rfl) | (simp [*, errW_none, errW_some] <;> rfl), by repeat (first | (with_reducible first | exact HB.out | apply below_alloc | apply pw_below_drewN | apply below_drew1) | exact HB.out)⟩

end Go.Proofs.Ytlopmffdebhpfaa.G
