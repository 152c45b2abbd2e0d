/- impl.page.bytes returns the 256 bytes of a page, in new memory: for a head and a body that is read. (The steps of its two regions that draw their order are printed by wip/gen/rg.py.) -/
import Derived.Test.YtlopmffdebhpfaaBase
import Derived.Test.YtlopmffdebhpfaaHead
import Derived.Test.YtlopmffdebhpfaaG135
import Derived.Test.YtlopmffdebhpfaaG136
namespace Go.Proofs.Ytlopmffdebhpfaa.G
open Go.RowKit Go.Proofs.YtlopmffdebhpfaaW.PrintWords Go.Proofs.YtlopmffdebhpfaaW.PrintLast Go.Proofs.YtlopmffdebhpfaaW.PrintMore
set_option linter.unusedVariables false
set_option linter.unusedSimpArgs false

/-- The page's bytes: the head at 4, the body at 16, the checksum of all behind it at 0. -/
def pageRest (hb l3 : List Int) : List Int := spl (spl (List.replicate 256 0) 4 hb) 16 l3
def impl_page_bytes.f (k : Nat) (a0 : Int) (a1 : Int) (a2 : Int) (l3 : List Int) : Option (List Int) :=
  (impl_head_bytes.f k a0 a1 a2).bind fun hb => if hb.length ≤ 252 then (if l3.length ≤ 240 then ((impl_Crc32.f k ((pageRest hb l3).drop 4)).bind fun c => ((impl_low.f k c 4).bind fun lb => (if lb.length ≤ 256 then (some (spl (pageRest hb l3) 0 lb)) else none))) else none) else none
theorem impl_page_bytes.mono : ∀ a0 a1 a2 a3 k, LeO (impl_page_bytes.f k a0 a1 a2 a3) (impl_page_bytes.f (k + 1) a0 a1 a2 a3) := by
  intro a0 a1 a2 a3 k
  unfold impl_page_bytes.f
  refine LeO.bind (impl_head_bytes.mono _ _ _ _) (fun _ => LeO.ite (LeO.ite (LeO.bind (impl_Crc32.mono _ _) (fun _ => LeO.bind (impl_low.mono _ _ _) (fun _ => LeO.refl _))) (LeO.refl _)) (LeO.refl _))
theorem pageRest_length (hb l3 : List Int) (h1 : hb.length ≤ 252) (h2 : l3.length ≤ 240) : (pageRest hb l3).length = 256 := by
  unfold pageRest
  have h0 : (List.replicate 256 (0 : Int)).length = 256 := List.length_replicate ..
  have h3 := spl_length (List.replicate 256 (0 : Int)) 4 hb (by omega)
  rw [spl_length _ _ _ (by omega), h3, h0]

def impl_page_bytes.T2 : Bool × List (List Nat × List Nat) := (true, [([], []), ([0], [0]), ([], []), ([2], [2]), ([3], [3]), ([1, 4, 4], [1, 4])])
def impl_page_bytes.B2 : List Nat := [0, 1, 0, 4, 12, 31]
theorem impl_page_bytes.tab2 : rtab .any (opsOf Try.f80 2) = impl_page_bytes.T2 := by kernel_rfl
theorem impl_page_bytes.bits2 : waitsOk impl_page_bytes.T2.2 impl_page_bytes.B2 = true := by kernel_rfl
def impl_page_bytes.T3 : Bool × List (List Nat × List Nat) := (true, [([], []), ([0], [0]), ([], []), ([2], [2]), ([1, 3], [1, 3])])
def impl_page_bytes.B3 : List Nat := [0, 1, 0, 4, 15]
theorem impl_page_bytes.tab3 : rtab .any (opsOf Try.f80 3) = impl_page_bytes.T3 := by kernel_rfl
theorem impl_page_bytes.bits3 : waitsOk impl_page_bytes.T3.2 impl_page_bytes.B3 = true := by kernel_rfl
set_option maxHeartbeats 4000000 in
set_option maxRecDepth 100000 in
theorem impl_page_bytes.calls (k : Nat) (a0 a1 a2 : Int) (A3 : Option Addr) (c3 : Nat) (l3 : List Int) (r : List Int) (w : World) (hr3 : Kd.C (Kd.int .u8) w A3 l3.length l3) (hc3 : l3.length ≤ c3) (h : impl_page_bytes.f k a0 a1 a2 l3 = some r) :
    Calls Try.prog 80 #[.agg #[.int .i64 a0, .int .i64 a1, .int .i64 a2, .slice A3 l3.length c3]] w fun e w' => ∃ v0_ : Value, e = .returned (v0_) ∧ Kd.R (Kd.int .u8) 5 w' w.heap.size (fun _ => True) v0_ r ∧ Below w.heap.size w w' := by
  have hu102 := Try.underlying102
  have hu100 := Try.underlying100
  unfold impl_page_bytes.f at h
  obtain ⟨hb, H1, h⟩ := Option.bind_eq_some_iff.mp h
  split at h
  case isFalse => cases h
  rename_i hb252
  split at h
  case isFalse => cases h
  rename_i hl240
  obtain ⟨crc, H2, h⟩ := Option.bind_eq_some_iff.mp h
  obtain ⟨lb, H3, h⟩ := Option.bind_eq_some_iff.mp h
  split at h
  case isFalse => cases h
  rename_i hlb
  obtain rfl := Option.some.inj h
  clear h
  have A1 := Aside0.mk H1
  have A2 := Aside0.mk H2
  have A3' := Aside0.mk H3
  clear H1 H2 H3
  have HR3 := Aside0.mk hr3
  have HC3 := Aside0.mk hc3
  clear hr3 hc3
  have L1 := Aside0.mk hb252
  have L2 := Aside0.mk hl240
  have L3 := Aside0.mk hlb
  clear hb252 hl240 hlb
  obtain ⟨i0, hi0, _, hsz0, _⟩ := info_parts info5
  have HI := Aside0.mk hi0
  have HZ := Aside0.mk hsz0
  clear hi0 hsz0
  go_enter Try.func80, Try.ntmps80
  go_wp2_with (first | ((with_reducible refine gate_dst (N := 1) rfl ?_); refine box_event ?hg (N := 1) ?hd (cs := #[.int .i64 a0, .int .i64 a1, .int .i64 a2, .slice A3 l3.length c3]) (t := 102) ?hr ?_; (case hd => rfl); (case hg => rfl); (case hr => first | (go_simp; done) | (go_simp; rfl)); intro gb hgb w6 hbox hbel; have BK := Aside0.mk hbox; have HB := Aside0.mk hbel; have GB := Aside0.mk hgb; clear hbox hbel hgb) | ((with_reducible refine gate_dst (N := 4) rfl ?_); refine Kd.R_make (Kd.int .u8) _ 5 rfl (N := 4) rfl 22 _ _ rfl 256 rfl rfl Try.underlying22 (.int .u8 0) 1 info5 rfl (by decide) (by omega) 0 (ok := fun _ => True) (okp := fun _ => True) rfl (fun _ hk => hk) trivial (by decide) (by decide) (Below.refl _ _) (Nat.le_refl _) ?_; intro v7 w7 ho7 hb7 hg7 hn7; have HM := Aside0.mk ho7; have HM2 := Aside0.mk hb7; clear ho7 hb7 hg7 hn7; obtain ⟨g, cap, ev, _, _, _⟩ := Kd.R_form HM.out (by decide); subst ev; rw [show (List.replicate (256 : Int).toNat (0 : Int)).length = 256 from rfl] at HM ⊢))
  have HGB : Aside0 (w6.heap.size ≤ g) := ⟨Kd.R_base HM.out g rfl⟩
  have HCAP : Aside0 (256 ≤ cap) := ⟨(Kd.R_reads' HM.out).2.1⟩
  have HSZ : Aside0 (w.heap.size ≤ w6.heap.size) := ⟨HB.out.size⟩
  have HGW : Aside0 (w.heap.size ≤ g) := ⟨Nat.le_trans HB.out.size HGB.out⟩
  have HB7 := Aside0.mk (below_step HB.out HM2.out)
  have BK7 := Aside0.mk (blk_below BK.out HM2.out)
  have hgne : Aside0 (gb ≠ g) := ⟨by have := HGB.out; have := blk_lt BK.out; omega⟩
  clear HB BK HM2
  have hsl4 : ∀ W, (Instr.slice 22 (.slice (some ⟨g, 0, none⟩) 256 cap) (some (.int .i64 4)) none none).run Try.prog W = .ok (.slice (some ⟨g, 4, none⟩) 252 (cap - 4)) W := cut_own 22 5 Try.underlying22 HI.out HZ.out g 256 cap 4 (by decide) (by have := HCAP.out; omega)
  have hsl16 : ∀ W, (Instr.slice 22 (.slice (some ⟨g, 0, none⟩) 256 cap) (some (.int .i64 16)) none none).run Try.prog W = .ok (.slice (some ⟨g, 16, none⟩) 240 (cap - 16)) W := cut_own 22 5 Try.underlying22 HI.out HZ.out g 256 cap 16 (by decide) (by have := HCAP.out; omega)
  refine start_ (n := 6) (S := fun w' => w'.heap[gb]? = some (.cells #[.int .i64 a0, .int .i64 a1, .int .i64 a2, .slice A3 l3.length c3] 102 (0, 0))) (ds := []) #[false, false, false, false, false, false] (by kernel_rfl) rfl rfl (BK7.out) (fun hHeld => ?_); refine with_tabW impl_page_bytes.tab2 impl_page_bytes.bits2 (fun HT_ HW_ => ?_)
  have HM8 : Aside0 (Kd.R (Kd.int .u8) 5 w7.drew w6.heap.size (fun _ => True) (.slice (some ⟨g, 0, none⟩) 256 cap) (List.replicate (256 : Int).toNat 0)) := ⟨Kd.R_drew HM.out⟩
  have HB8 : Aside0 (Below w.heap.size w w7.drew) := ⟨below_drew1 HB7.out⟩
  clear HM HB7 BK7
  generalize w7.drew = w8 at HM8 HB8 hHeld ⊢
  refine pure_ (i := 0) (N := some 5) (v := ?_) (a' := ?_) #[true, false, false, false, false, false] rfl rfl (any_of HT_.out (by kernel_rfl)) (fun _ _ _ h => h) (Or.inl ⟨by rfl, ?_⟩) ?_ ?_
  rotate_left
  · intro w'
    go_simp
    with_reducible rfl
  rotate_left
  · simp only [Act.put, List.setIfInBounds_toArray, List.set_cons_zero, List.set_cons_succ, i64_w, i32_w]
    rfl
  refine pure_ (i := 1) (N := some 6) (v := ?_) (a' := ?_) #[true, true, false, false, false, false] rfl rfl (any_of HT_.out (by kernel_rfl)) (fun _ _ _ h => h) (Or.inl ⟨by rfl, ?_⟩) ?_ ?_
  rotate_left
  · intro w'
    go_simp
    with_reducible rfl
  rotate_left
  · simp only [Act.put, List.setIfInBounds_toArray, List.set_cons_zero, List.set_cons_succ, i64_w, i32_w]
    rfl
  refine pure_ (i := 2) (N := some 7) (v := ?_) (a' := ?_) #[true, true, true, false, false, false] rfl rfl (any_of HT_.out (by kernel_rfl)) (fun _ _ _ h => h) (Or.inl ⟨by rfl, ?_⟩) ?_ ?_
  rotate_left
  · intro w'
    go_simp
    with_reducible rfl
  rotate_left
  · simp only [Act.put, List.setIfInBounds_toArray, List.set_cons_zero, List.set_cons_succ, i64_w, i32_w]
    rfl
  refine take_ (i := 3) (N := some 8) (v := ?_) (a' := ?_) #[true, true, true, true, false, false] rfl rfl (take_ofW HT_.out HW_.out (by kernel_rfl)) (fun _ _ _ h => h) (Or.inl ⟨by rfl, ?_⟩) hHeld ?_ ?_
  rotate_left
  · intro w' s0
    have hc0_ : w'.cell? ⟨gb, 0, none⟩ = some (.int .i64 a0) := (blk_cell s0 0).trans rfl
    have hc1_ : w'.cell? ⟨gb, 1, none⟩ = some (.int .i64 a1) := (blk_cell s0 1).trans rfl
    have hc2_ : w'.cell? ⟨gb, 2, none⟩ = some (.int .i64 a2) := (blk_cell s0 2).trans rfl
    clear s0
    go_simp
    with_reducible rfl
  rotate_left
  · simp only [Act.put, List.setIfInBounds_toArray, List.set_cons_zero, List.set_cons_succ, i64_w, i32_w]
    rfl
  refine one_ (i := 4) (N := some 9) #[true, true, true, true, true, false] rfl rfl (one_of HT_.out (by kernel_rfl)) (by decide) (fun K hK => ?_)
  refine goes_ Try.func134 (by kernel_rfl) rfl #[.agg #[.int .i64 a0, .int .i64 a1, .int .i64 a2]] (by rfl) rfl rfl (by first | rfl | (simp only [List.map_toArray, List.map_cons, List.map_nil]; first | done | rfl)) ?_
  refine (impl_head_bytes.calls k a0 a1 a2 hb _ A1.out).mono ?_
  rintro e w9 ⟨v9, rfl, hv9, hb9⟩
  refine ⟨_, rfl, ?_⟩
  have HM9 := Aside0.mk (Kd.R_below HM8.out hb9)
  have HB9 := Aside0.mk (below_step HB8.out hb9)
  have HV9 := Aside0.mk hv9
  have HD9 := Aside0.mk (hb9.block gb (blk_lt hHeld) |>.trans hHeld)
  have HN9 : Aside0 (g < w8.heap.size) := ⟨Kd.R_lt HM8.out g rfl⟩
  clear hHeld hb9 hv9 HM8 HB8
  obtain ⟨A9, c9, ev9⟩ := Kd.V_slice HV9.out
  subst ev9
  refine hK.out _ _ (HD9.out) (fun hHeld => ?_)
  clear hK K
  refine norm_ (a' := ?_) ?_ ?_
  rotate_left
  · show Act.put _ (some 9) _ = _
    simp only [Act.put, List.setIfInBounds_toArray, List.set_cons_zero, List.set_cons_succ, i64_w, i32_w]
    rfl
  refine one_ (i := 5) (N := some 10) #[true, true, true, true, true, true] rfl rfl (one_of HT_.out (by kernel_rfl)) (by decide) (fun K hK => ?_)
  obtain ⟨w10, hrun10, hR10, hG10⟩ := run_copy_at (P := Try.prog) 22 22 3 5 Try.underlying22 (by kernel_rfl) w9 (off := 4) (xs := List.replicate (256 : Int).toNat 0) (ys := hb) (A := A9) (dA := some ⟨g, 4, none⟩) (c := c9) (dc := cap - 4) HM9.out (Kd.V_reads' HV9.out).2.2 (by have := L1.out; show 4 + hb.length ≤ 256; omega) (fun _ => rfl)
  refine copy_step (by rfl) rfl (.tmp 6) (.tmp 9) 22 22 rfl _ _ _ rfl rfl hrun10 ?_
  have HM10 := Aside0.mk hR10
  have HB10 := Aside0.mk (HB9.out.grown hG10 HB9.out.size (by intro q hq; cases hq; exact HGW.out))
  have HD10 := Aside0.mk (blk_grown HD9.out hG10 (by intro e; exact hgne.out (Option.some.inj e)))
  clear HM9 HB9 HD9 HV9 hrun10 hR10 hG10
  refine hK.out _ _ (HD10.out) (fun hHeld => ?_)
  clear hK K
  refine norm_ (a' := ?_) ?_ ?_
  rotate_left
  · show Act.put _ (some 10) _ = _
    simp only [Act.put, List.setIfInBounds_toArray, List.set_cons_zero, List.set_cons_succ, i64_w, i32_w]
    rfl
  refine done_ (done_of HT_.out (by kernel_rfl)) ?_

  try clear hHeld
  go_wp2_with fail
  have hsl16' := hsl16
  refine start_ (n := 5) (S := fun w' => w'.heap[gb]? = some (.cells #[.int .i64 a0, .int .i64 a1, .int .i64 a2, .slice A3 l3.length c3] 102 (0, 0))) (ds := []) #[false, false, false, false, false] (by kernel_rfl) rfl rfl (HD10.out) (fun hHeld => ?_); refine with_tabW impl_page_bytes.tab3 impl_page_bytes.bits3 (fun HT_ HW_ => ?_)
  have HM11 : Aside0 (Kd.R (Kd.int .u8) 5 w10.drew w6.heap.size (fun _ => True) (.slice (some ⟨g, 0, none⟩) 256 cap) (spl (List.replicate (256 : Int).toNat 0) 4 hb)) := ⟨Kd.R_drew HM10.out⟩
  have HB11 : Aside0 (Below w.heap.size w w10.drew) := ⟨below_drew1 HB10.out⟩
  clear HM10 HB10 HD10
  generalize w10.drew = w11 at HM11 HB11 hHeld ⊢
  refine pure_ (i := 0) (N := some 11) (v := ?_) (a' := ?_) #[true, false, false, false, false] rfl rfl (any_of HT_.out (by kernel_rfl)) (fun _ _ _ h => h) (Or.inl ⟨by rfl, ?_⟩) ?_ ?_
  rotate_left
  · intro w'
    go_simp
    with_reducible rfl
  rotate_left
  · simp only [Act.put, List.setIfInBounds_toArray, List.set_cons_zero, List.set_cons_succ, i64_w, i32_w]
    rfl
  refine pure_ (i := 1) (N := some 12) (v := ?_) (a' := ?_) #[true, true, false, false, false] rfl rfl (any_of HT_.out (by kernel_rfl)) (fun _ _ _ h => h) (Or.inl ⟨by rfl, ?_⟩) ?_ ?_
  rotate_left
  · intro w'
    go_simp
    with_reducible rfl
  rotate_left
  · simp only [Act.put, List.setIfInBounds_toArray, List.set_cons_zero, List.set_cons_succ, i64_w, i32_w]
    rfl
  refine pure_ (i := 2) (N := some 13) (v := ?_) (a' := ?_) #[true, true, true, false, false] rfl rfl (any_of HT_.out (by kernel_rfl)) (fun _ _ _ h => h) (Or.inl ⟨by rfl, ?_⟩) ?_ ?_
  rotate_left
  · intro w'
    go_simp
    with_reducible rfl
  rotate_left
  · simp only [Act.put, List.setIfInBounds_toArray, List.set_cons_zero, List.set_cons_succ, i64_w, i32_w]
    rfl
  refine take_ (i := 3) (N := some 14) (v := ?_) (a' := ?_) #[true, true, true, true, false] rfl rfl (take_ofW HT_.out HW_.out (by kernel_rfl)) (fun _ _ _ h => h) (Or.inl ⟨by rfl, ?_⟩) hHeld ?_ ?_
  rotate_left
  · intro w' s0
    have hc3_ : w'.cell? ⟨gb, 3, none⟩ = some (.slice A3 l3.length c3) := (blk_cell s0 3).trans rfl
    clear s0
    go_simp
    with_reducible rfl
  rotate_left
  · simp only [Act.put, List.setIfInBounds_toArray, List.set_cons_zero, List.set_cons_succ, i64_w, i32_w]
    rfl
  refine one_ (i := 4) (N := some 15) #[true, true, true, true, true] rfl rfl (one_of HT_.out (by kernel_rfl)) (by decide) (fun K hK => ?_)
  have hx11 : (spl (List.replicate (256 : Int).toNat 0) 4 hb).length = 256 := spl_length _ _ _ (by have := L1.out; show 4 + hb.length ≤ 256; omega)
  have hm11 := HM11.out
  rw [show (256 : Nat) = (spl (List.replicate (256 : Int).toNat 0) 4 hb).length from hx11.symm] at hm11
  obtain ⟨w12, hrun12, hR12, hG12⟩ := run_copy_at (P := Try.prog) 22 22 3 5 Try.underlying22 (by kernel_rfl) w11 (off := 16) (ys := l3) (A := A3) (dA := some ⟨g, 16, none⟩) (c := c3) (dc := cap - 16) hm11 (Kd.C_below HR3.out HB11.out) (by have := L2.out; rw [hx11]; omega) (fun _ => rfl)
  rw [hx11] at hrun12 hR12
  refine copy_step (by rfl) rfl (.tmp 12) (.tmp 14) 22 22 rfl _ _ _ rfl rfl hrun12 ?_
  have HM12 := Aside0.mk hR12
  have HB12 := Aside0.mk (HB11.out.grown hG12 HB11.out.size (by intro q hq; cases hq; exact HGW.out))
  have HD12 := Aside0.mk (blk_grown hHeld hG12 (by intro e; exact hgne.out (Option.some.inj e)))
  clear HM11 HB11 hHeld hrun12 hR12 hG12 hx11 hm11
  refine hK.out _ _ (HD12.out) (fun hHeld => ?_)
  clear hK K
  refine norm_ (a' := ?_) ?_ ?_
  rotate_left
  · show Act.put _ (some 15) _ = _
    simp only [Act.put, List.setIfInBounds_toArray, List.set_cons_zero, List.set_cons_succ, i64_w, i32_w]
    rfl
  refine done_ (done_of HT_.out (by kernel_rfl)) ?_
  try clear hHeld
  have hPL : Aside0 ((pageRest hb l3).length = 256) := ⟨pageRest_length hb l3 L1.out L2.out⟩
  have HM13 : Aside0 (Kd.R (Kd.int .u8) 5 w12 w6.heap.size (fun _ => True) (.slice (some ⟨g, 0, none⟩) 256 cap) (pageRest hb l3)) := HM12
  clear HM12
  have HC13 : Aside0 (Kd.C (Kd.int .u8) w12 (some ⟨g, 4, none⟩) ((pageRest hb l3).drop 4).length ((pageRest hb l3).drop 4)) := ⟨by
    have h1 := (Kd.R_reads' HM13.out).2.2
    have h2 := Kd.C_drop (c := cap) h1 (m := 4) (by have := hPL.out; omega) (by have := hPL.out; have := HCAP.out; omega)
    rw [if_neg (by have := HCAP.out; omega)] at h2
    exact h2⟩
  have hdl : ((pageRest hb l3).drop 4).length = 252 := by rw [List.length_drop, hPL.out]
  have HDL := Aside0.mk hdl
  clear hdl
  go_wp2_with fail
  have hcr := impl_Crc32.calls k (some ⟨g, 4, none⟩) (cap - 4) ((pageRest hb l3).drop 4) crc w12 HC13.out (by have := HDL.out; have := HCAP.out; omega) A2.out
  rw [HDL.out] at hcr
  refine hcr.mono ?_
  clear hcr
  rintro e w13 ⟨rfl, hd13⟩
  have HM14 := Aside0.mk (Kd.R_below HM13.out hd13.below)
  have HB14 := Aside0.mk (below_step HB12.out hd13.below)
  clear HM13 HC13 HB12 hd13 HD12
  go_wp2_with fail
  refine (impl_low.calls k crc 4 lb w13 A3'.out).mono ?_
  rintro e w14 ⟨v14, rfl, ho14, hb14⟩
  have HM15 := Aside0.mk (Kd.R_below HM14.out hb14)
  have HB15 := Aside0.mk (below_step HB14.out hb14)
  have HO15 := Aside0.mk ho14
  clear HM14 HB14 ho14 hb14
  obtain ⟨A15, c15, ev15⟩ := Kd.R_slice HO15.out
  subst ev15
  obtain ⟨w16, hrun16, hR16, hG16⟩ : ∃ w1, (Builtin.copy_ #[22, 22] 3 #[.slice (some ⟨g, 0, none⟩) 256 cap, .slice A15 lb.length c15]).run Try.prog w14 = .ok (.int .i64 (lb.length : Int)) w1 ∧
      Kd.R (Kd.int .u8) 5 w1 w6.heap.size (fun _ => True) (.slice (some ⟨g, 0, none⟩) 256 cap) (spl (pageRest hb l3) 0 lb) ∧ w14.grownBy w1 (some g) := by
    have hm := HM15.out
    rw [show (256 : Nat) = (pageRest hb l3).length from hPL.out.symm] at hm ⊢
    have hq := run_copy_at (P := Try.prog) 22 22 3 5 Try.underlying22 (by kernel_rfl) w14 (off := 0) (ys := lb) (dc := cap) (c := c15) (dA := some ⟨g, 0, none⟩) hm (Kd.R_reads' HO15.out).2.2 (by have := L3.out; have := hPL.out; omega) (fun _ => rfl)
    rw [Nat.sub_zero] at hq
    with_reducible exact hq
  have HM16 := Aside0.mk hR16
  have HB16 := Aside0.mk (HB15.out.grown hG16 HB15.out.size (by intro q hq; cases hq; exact HGW.out))
  have HRUN := Aside0.mk hrun16
  clear HM15 HB15 HO15 hR16 hG16 hrun16
  go_wp2_with ((with_reducible refine gate_dst (N := 21) rfl ?_); refine copy_list rfl (.tmp 16) (.tmp 20) 22 22 rfl _ _ _ rfl rfl HRUN.out ?_)
  go_ret
  exact ⟨_, rfl, Kd.R_lower HM16.out HSZ.out, HB16.out⟩
end Go.Proofs.Ytlopmffdebhpfaa.G
