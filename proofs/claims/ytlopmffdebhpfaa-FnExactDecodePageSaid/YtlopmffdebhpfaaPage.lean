/- impl.DecodePage and impl.EncodePage: what each returns, over parsePage, page.bytes and errors.Is. (The steps of the region that draws its order are printed by wip/gen/rg.py.) -/
import Derived.Test.YtlopmffdebhpfaaParse
import Derived.Test.YtlopmffdebhpfaaErr
import Derived.Test.YtlopmffdebhpfaaLib1
namespace Go.Proofs.Ytlopmffdebhpfaa.G
open Go.RowKit Go.Proofs.YtlopmffdebhpfaaW.PrintWords Go.Proofs.YtlopmffdebhpfaaW.PrintLast Go.Proofs.YtlopmffdebhpfaaW.PrintMore
set_option linter.unusedVariables false
set_option linter.unusedSimpArgs false

theorem F_of_C {k : IntKind} {w : World} {A : Option Addr} {xs : List Int} (h : Kd.C (Kd.int k) w A xs.length xs) : Kd.F (Kd.int k) w (fun _ => True) A xs.length xs := by
  intro W' hW
  obtain ⟨_, h2, h3⟩ := C_cells h
  refine C_of_cells h2 (fun hp => ?_)
  obtain ⟨ad, e, hc⟩ := h3 hp
  refine ⟨ad, e, fun j x hx => ?_⟩
  have h4 := hc j x hx
  exact (World.cell?_of_block (hW _ trivial (World.block_lt_of_cell? w _ h4))).trans h4

def impl_DecodePage.f (k : Nat) (a0 : Int) (l1 : List Int) : Option (Int × List Int × Bool) :=
  (impl_parsePage.f k a0 l1).bind fun p => if p.1 = 0 then ((bytes_Clone.f p.2.2.2.2).bind fun b => some (p.2.2.1, b, true)) else some (0, [], false)
theorem impl_DecodePage.mono : ∀ a0 a1 k, LeO (impl_DecodePage.f k a0 a1) (impl_DecodePage.f (k + 1) a0 a1) := by
  intro a0 a1 k
  unfold impl_DecodePage.f
  exact LeO.bind (impl_parsePage.mono _ _ _) (fun _ => LeO.refl _)

def impl_DecodePage.T4 : Bool × List (List Nat × List Nat) := (true, [([], []), ([0], [0]), ([1], [1]), ([], []), ([3], [3]), ([4], [4]), ([2, 5, 0, 1, 2], [2]), ([5, 6, 0, 1, 2, 3, 4, 5, 6], [5]), ([7, 0, 1, 2, 3, 4, 5, 6, 7], [])])
def impl_DecodePage.B4 : List Nat := [0, 1, 3, 0, 8, 24, 63, 127, 255]
theorem impl_DecodePage.tab4 : rtab .any (opsOf Try.f16 4) = impl_DecodePage.T4 := by kernel_rfl
theorem impl_DecodePage.bits4 : waitsOk impl_DecodePage.T4.2 impl_DecodePage.B4 = true := by kernel_rfl
set_option maxHeartbeats 4000000 in
set_option maxRecDepth 100000 in
theorem impl_DecodePage.calls (k : Nat) (a0 : Int) (A1 : Option Addr) (c1 : Nat) (l1 : List Int) (r1 : Int) (r2 : List Int) (r3 : Bool) (w : World) (hr1 : Kd.C (Kd.int .u8) w A1 l1.length l1) (hc1 : l1.length ≤ c1) (h : impl_DecodePage.f k a0 l1 = some (r1, r2, r3)) :
    Calls Try.prog 16 #[.int .i64 a0, .slice A1 l1.length c1] w fun e w' => ∃ v1_ : Value, e = .returned (.tuple #[.int .i64 r1, v1_, .bool r3]) ∧ Kd.R (Kd.int .u8) 5 w' w.heap.size (fun _ => True) v1_ r2 ∧ Below w.heap.size w w' := by
  have hu102 := Try.underlying102
  have hu100 := Try.underlying100
  unfold impl_DecodePage.f at h
  obtain ⟨p, H1, h⟩ := Option.bind_eq_some_iff.mp h
  have N1 := Aside0.mk H1
  have H := Aside0.mk h
  have HF := Aside0.mk (F_of_C hr1)
  have HC := Aside0.mk hc1
  clear H1 h hr1 hc1
  obtain ⟨tag, id, kind, size, body⟩ := p
  simp only at H
  go_enter Try.func16, Try.ntmps16
  go_wp2_with fail
  refine (impl_parsePage.calls k a0 A1 c1 l1 _ _ (fun _ => True) (Kd.F_below HF.out (by first | exact Below.refl _ _ | exact below_drew1 (Below.refl _ _))) HC.out N1.out).mono ?_
  rintro e w5 ⟨A5, c5, rfl, hc5, hf5, hb5⟩
  have HF5 := Aside0.mk hf5
  have HC5 := Aside0.mk hc5
  have HB := Aside0.mk hb5
  clear hf5 hc5 hb5 HF
  simp only at HF5 HC5 ⊢
  generalize he : perr tag = ve
  go_wp2_with (first | ((with_reducible refine gate_dst (N := 7) rfl ?_); refine box_event ?hg (N := 7) ?hd (cs := #[.int .i64 0, .int .i64 0, .int .i64 0, .slice none 0 0]) (t := 102) ?hr ?_; (case hd => rfl); (case hg => rfl); (case hr => first | (go_simp; done) | (go_simp; rfl)); intro gp hgr w6 hbox hbel; have BP0 := Aside0.mk hbox; have HB1 := Aside0.mk (below_step HB.out hbel); have HL := Aside0.mk hbel; have GP := Aside0.mk hgr; clear hbox hbel hgr) | ((with_reducible refine gate_ (.store 102 (.tmp 7) (.tmp 13)) rfl ?_); refine store_blk rfl rfl 102 (.tmp 7) (.tmp 13) rfl (off := 0) (u := .agg #[.int .i64 id, .int .i64 kind, .int .i64 size, .slice A5 body.length c5]) #[.int .i64 id, .int .i64 kind, .int .i64 size, .slice A5 body.length c5] rfl rfl BP0.out [.int .i64 id, .int .i64 kind, .int .i64 size, .slice A5 body.length c5] rfl (by kernel_rfl) (Nat.le_of_ble_eq_true rfl) rfl rfl ?_; intro w7 hblk hgrw; have BP := Aside0.mk hblk; have HB2 := Aside0.mk (HB1.out.grown hgrw HB1.out.size (by intro q hq; cases hq; exact (by rw [GP.out]; exact HB.out.size))); have HF7 := Aside0.mk (Kd.F_mono (Kd.F_grown (ok := fun k => True ∧ k < w5.heap.size) (Kd.F_below (Kd.F_bound HF5.out) HL.out) hgrw (fun q hq e => by cases e; exact absurd hq.2 (by rw [GP.out]; exact Nat.lt_irrefl _))) (fun _ _ => trivial)); clear hblk hgrw))
  cases tag with
  | succ n =>
    have h := H.out
    rw [if_neg (by omega)] at h
    simp only [Option.some.injEq, Prod.mk.injEq] at h
    obtain ⟨rfl, rfl, rfl⟩ := h
    cases n with
    | zero =>
      simp only [perr] at he
      subst he
      refine (is_any _ _ true (by decide) _).mono ?_
      rintro e w9 ⟨rfl, rfl⟩
      go_wp2_with fail
      go_ret3
      exact ⟨_, rfl, Kd.R_nil _ _ _ _ _, HB2.out⟩
    | succ n =>
      simp only [perr] at he
      subst he
      refine (is_any _ _ false (by decide) _).mono ?_
      rintro e w9 ⟨rfl, rfl⟩
      go_wp2_with fail
      refine (is_any _ _ true (by decide) _).mono ?_
      rintro e w9 ⟨rfl, rfl⟩
      go_wp2_with fail
      go_ret3
      exact ⟨_, rfl, Kd.R_nil _ _ _ _ _, HB2.out⟩
  | zero =>
    have h := H.out
    rw [if_pos rfl] at h
    obtain ⟨b, H2, h⟩ := Option.bind_eq_some_iff.mp h
    simp only [Option.some.injEq, Prod.mk.injEq] at h
    obtain ⟨rfl, rfl, rfl⟩ := h
    have N2 := Aside0.mk H2
    clear H2 H
    simp only [perr] at he
    subst he
    refine (is_nil _ _).mono ?_
    rintro e w9 ⟨rfl, rfl⟩
    go_wp2_with fail
    refine (is_nil _ _).mono ?_
    rintro e w9 ⟨rfl, rfl⟩
    go_wp2_with fail
    refine start_ (n := 9) (S := fun w' => w'.heap[gp]? = some (.cells #[.int .i64 id, .int .i64 kind, .int .i64 size, .slice A5 body.length c5] 102 (0, 0))) (ds := []) #[false, false, false, false, false, false, false, false, false] (by kernel_rfl) rfl rfl (blk_drew BP.out) (fun hHeld => ?_); refine with_tabW impl_DecodePage.tab4 impl_DecodePage.bits4 (fun HT_ HW_ => ?_)
    have HB3 := Aside0.mk (below_drew1 HB2.out)
    have HF8 := Aside0.mk (Kd.F_drew HF7.out)
    clear HB2 HF7 BP
    generalize World.drew _ = w8 at HB3 HF8 hHeld ⊢
    refine pure_ (i := 0) (N := some 23) (v := ?_) (a' := ?_) #[true, false, false, false, false, false, false, false, false] rfl rfl (any_of HT_.out (by kernel_rfl)) (fun _ _ _ h => h) (Or.inl ⟨by rfl, ?_⟩) ?_ ?_
    rotate_left
    · intro w'
      go_simp
      with_reducible rfl
    rotate_left
    · simp only [Act.put, List.setIfInBounds_toArray, List.set_cons_zero, List.set_cons_succ, i64_w, i32_w]
      rfl
    refine pure_ (i := 1) (N := some 24) (v := ?_) (a' := ?_) #[true, true, false, false, false, false, false, false, false] rfl rfl (any_of HT_.out (by kernel_rfl)) (fun _ _ _ h => h) (Or.inl ⟨by rfl, ?_⟩) ?_ ?_
    rotate_left
    · intro w'
      go_simp
      with_reducible rfl
    rotate_left
    · simp only [Act.put, List.setIfInBounds_toArray, List.set_cons_zero, List.set_cons_succ, i64_w, i32_w]
      rfl
    refine take_ (i := 2) (N := some 25) (v := ?_) (a' := ?_) #[true, true, true, false, false, false, false, false, false] rfl rfl (take_ofW HT_.out HW_.out (by kernel_rfl)) (fun _ _ _ h => h) (Or.inl ⟨by rfl, ?_⟩) hHeld ?_ ?_
    rotate_left
    · intro w' s0
      have hcz0 : w'.cell? ⟨gp, 0, none⟩ = some (.int .i64 id) := (blk_cell s0 0).trans rfl
      have hcz1 : w'.cell? ⟨gp, 1, none⟩ = some (.int .i64 kind) := (blk_cell s0 1).trans rfl
      have hcz2 : w'.cell? ⟨gp, 2, none⟩ = some (.int .i64 size) := (blk_cell s0 2).trans rfl
      have hcz3 : w'.cell? ⟨gp, 3, none⟩ = some (.slice A5 body.length c5) := (blk_cell s0 3).trans rfl
      clear s0
      go_simp
      with_reducible rfl
    rotate_left
    · simp only [Act.put, List.setIfInBounds_toArray, List.set_cons_zero, List.set_cons_succ, i64_w, i32_w]
      rfl
    refine pure_ (i := 3) (N := some 26) (v := ?_) (a' := ?_) #[true, true, true, true, false, false, false, false, false] rfl rfl (any_of HT_.out (by kernel_rfl)) (fun _ _ _ h => h) (Or.inl ⟨by rfl, ?_⟩) ?_ ?_
    rotate_left
    · intro w'
      go_simp
      with_reducible rfl
    rotate_left
    · simp only [Act.put, List.setIfInBounds_toArray, List.set_cons_zero, List.set_cons_succ, i64_w, i32_w]
      rfl
    refine take_ (i := 4) (N := some 27) (v := ?_) (a' := ?_) #[true, true, true, true, true, false, false, false, false] rfl rfl (take_ofW HT_.out HW_.out (by kernel_rfl)) (fun _ _ _ h => h) (Or.inl ⟨by rfl, ?_⟩) hHeld ?_ ?_
    rotate_left
    · intro w' s0
      have hcz0 : w'.cell? ⟨gp, 0, none⟩ = some (.int .i64 id) := (blk_cell s0 0).trans rfl
      have hcz1 : w'.cell? ⟨gp, 1, none⟩ = some (.int .i64 kind) := (blk_cell s0 1).trans rfl
      have hcz2 : w'.cell? ⟨gp, 2, none⟩ = some (.int .i64 size) := (blk_cell s0 2).trans rfl
      have hcz3 : w'.cell? ⟨gp, 3, none⟩ = some (.slice A5 body.length c5) := (blk_cell s0 3).trans rfl
      clear s0
      go_simp
      with_reducible rfl
    rotate_left
    · simp only [Act.put, List.setIfInBounds_toArray, List.set_cons_zero, List.set_cons_succ, i64_w, i32_w]
      rfl
    refine one_ (i := 5) (N := some 28) #[true, true, true, true, true, true, false, false, false] rfl rfl (one_of HT_.out (by kernel_rfl)) (by decide) (fun K hK => ?_)
    refine goes_ Try.func72 (by kernel_rfl) rfl #[.slice A5 body.length c5] (by rfl) rfl rfl (by first | rfl | (simp only [List.map_toArray, List.map_cons, List.map_nil]; first | done | rfl)) ?_
    refine (bytes_Clone.calls A5 c5 body b _ (Kd.F_now HF8.out) HC5.out N2.out).mono ?_
    rintro e w9 ⟨v9, rfl, ho9, hb9⟩
    refine ⟨_, rfl, ?_⟩
    have HO9 := Aside0.mk (Kd.R_lower ho9 HB3.out.size)
    have HB9 := Aside0.mk (below_step HB3.out hb9)
    have HD9 := Aside0.mk (blk_below hHeld hb9)
    clear ho9 hb9 hHeld HB3 HF8
    refine hK.out _ _ (HD9.out) (fun hHeld => ?_)
    clear hK K
    refine norm_ (a' := ?_) ?_ ?_
    rotate_left
    · show Act.put _ (some 28) _ = _
      simp only [Act.put, List.setIfInBounds_toArray, List.set_cons_zero, List.set_cons_succ, i64_w, i32_w]
      rfl
    refine pure_ (i := 6) (N := some 4) (v := ?_) (a' := ?_) #[true, true, true, true, true, true, true, false, false] rfl rfl (any_of HT_.out (by kernel_rfl)) (fun _ _ _ h => h) (Or.inl ⟨by rfl, ?_⟩) ?_ ?_
    rotate_left
    · intro w'
      go_simp
      with_reducible rfl
    rotate_left
    · simp only [Act.put, List.setIfInBounds_toArray, List.set_cons_zero, List.set_cons_succ, i64_w, i32_w]
      rfl
    refine pure_ (i := 7) (N := some 5) (v := ?_) (a' := ?_) #[true, true, true, true, true, true, true, true, false] rfl rfl (any_of HT_.out (by kernel_rfl)) (fun _ _ _ h => h) (Or.inl ⟨by rfl, ?_⟩) ?_ ?_
    rotate_left
    · intro w'
      go_simp
      with_reducible rfl
    rotate_left
    · simp only [Act.put, List.setIfInBounds_toArray, List.set_cons_zero, List.set_cons_succ, i64_w, i32_w]
      rfl
    refine pure_ (i := 8) (N := some 6) (v := ?_) (a' := ?_) #[true, true, true, true, true, true, true, true, true] rfl rfl (any_of HT_.out (by kernel_rfl)) (fun _ _ _ h => h) (Or.inl ⟨by rfl, ?_⟩) ?_ ?_
    rotate_left
    · intro w'
      go_simp
      with_reducible rfl
    rotate_left
    · simp only [Act.put, List.setIfInBounds_toArray, List.set_cons_zero, List.set_cons_succ, i64_w, i32_w]
      rfl
    refine done_ (done_of HT_.out (by kernel_rfl)) ?_
    try clear hHeld
    go_wp2_with fail
    go_ret3
    exact ⟨_, rfl, HO9.out, HB9.out⟩

def impl_EncodePage.f (k : Nat) (a0 : Int) (a1 : Int) (l2 : List Int) : Option (List Int × Bool) :=
  (impl_head_valid.f a0 a1 (l2.length : Int)).bind fun hv => if hv = true then ((impl_page_bytes.f k a0 a1 (l2.length : Int) l2).bind fun pb => some (pb, true)) else some ([], false)
theorem impl_EncodePage.mono : ∀ a0 a1 a2 k, LeO (impl_EncodePage.f k a0 a1 a2) (impl_EncodePage.f (k + 1) a0 a1 a2) := by
  intro a0 a1 a2 k
  unfold impl_EncodePage.f
  exact LeO.bind (LeO.refl _) (fun _ => LeO.ite (LeO.bind (impl_page_bytes.mono _ _ _ _ _) (fun _ => LeO.refl _)) (LeO.refl _))
set_option maxHeartbeats 4000000 in
set_option maxRecDepth 100000 in
theorem impl_EncodePage.calls (k : Nat) (a0 : Int) (a1 : Int) (A2 : Option Addr) (c2 : Nat) (l2 : List Int) (r1 : List Int) (r2 : Bool) (w : World) (hr2 : Kd.C (Kd.int .u8) w A2 l2.length l2) (hc2 : l2.length ≤ c2) (h : impl_EncodePage.f k a0 a1 l2 = some (r1, r2)) :
    Calls Try.prog 22 #[.int .i64 a0, .int .i64 a1, .slice A2 l2.length c2] w fun e w' => ∃ v0_ : Value, e = .returned (.tuple #[v0_, .bool r2]) ∧ Kd.R (Kd.int .u8) 5 w' w.heap.size (fun _ => True) v0_ r1 ∧ Below w.heap.size w w' := by
  have hu102 := Try.underlying102
  have hu100 := Try.underlying100
  unfold impl_EncodePage.f at h
  obtain ⟨hv, H1, h⟩ := Option.bind_eq_some_iff.mp h
  have N1 := Aside0.mk H1
  have H := Aside0.mk h
  have HR := Aside0.mk hr2
  have HC := Aside0.mk hc2
  clear H1 h hr2 hc2
  go_enter Try.func22, Try.ntmps22
  go_wp2_with (first | ((with_reducible refine gate_dst (N := 8) rfl ?_); refine box_event ?hg (N := 8) ?hd (cs := #[.int .i64 0, .int .i64 0, .int .i64 0, .slice none 0 0]) (t := 102) ?hr ?_; (case hd => rfl); (case hg => rfl); (case hr => first | (go_simp; done) | (go_simp; rfl)); intro gp hgr w6 hbox hbel; have BP0 := Aside0.mk hbox; have HB1 := Aside0.mk hbel; have GP := Aside0.mk hgr; clear hbox hbel hgr) | ((with_reducible refine gate_ (.store 102 (.tmp 8) (.tmp 15)) rfl ?_); refine store_blk rfl rfl 102 (.tmp 8) (.tmp 15) rfl (off := 0) (u := .agg #[.int .i64 a0, .int .i64 a1, .int .i64 (l2.length : Int), .slice A2 l2.length c2]) #[.int .i64 a0, .int .i64 a1, .int .i64 (l2.length : Int), .slice A2 l2.length c2] rfl rfl BP0.out [.int .i64 a0, .int .i64 a1, .int .i64 (l2.length : Int), .slice A2 l2.length c2] rfl (by kernel_rfl) (Nat.le_of_ble_eq_true rfl) rfl rfl ?_; intro w7 hblk hgrw; have BP := Aside0.mk hblk; have HB2 := Aside0.mk (HB1.out.grown hgrw HB1.out.size (by intro q hq; cases hq; exact Nat.le_of_eq GP.out.symm)); have hcz0 : w7.cell? ⟨gp, 0, none⟩ = some (.int .i64 a0) := (blk_cell BP.out 0).trans rfl; have hcz1 : w7.cell? ⟨gp, 1, none⟩ = some (.int .i64 a1) := (blk_cell BP.out 1).trans rfl; have hcz2 : w7.cell? ⟨gp, 2, none⟩ = some (.int .i64 (l2.length : Int)) := (blk_cell BP.out 2).trans rfl; have hcz3 : w7.cell? ⟨gp, 3, none⟩ = some (.slice A2 l2.length c2) := (blk_cell BP.out 3).trans rfl; clear hblk hgrw))
  refine (impl_head_valid.calls a0 a1 _ hv _ N1.out).mono ?_
  rintro e w8 ⟨rfl, hb8⟩
  have BP2 := Aside0.mk (blk_below BP.out hb8)
  have HB3 := Aside0.mk (below_step HB2.out hb8)
  clear hb8 BP HB2 hcz0 hcz1 hcz2 hcz3
  cases hv with
  | false =>
    have h := H.out
    rw [if_neg (by decide)] at h
    simp only [Option.some.injEq, Prod.mk.injEq] at h
    obtain ⟨rfl, rfl⟩ := h
    go_wp2_with fail
    go_ret2
    exact ⟨_, rfl, Kd.R_nil _ _ _ _ _, HB3.out⟩
  | true =>
    have h := H.out
    rw [if_pos rfl] at h
    obtain ⟨pb, H2, h⟩ := Option.bind_eq_some_iff.mp h
    simp only [Option.some.injEq, Prod.mk.injEq] at h
    obtain ⟨rfl, rfl⟩ := h
    have N2 := Aside0.mk H2
    clear H2 H
    have hcz0 : w8.cell? ⟨gp, 0, none⟩ = some (.int .i64 a0) := (blk_cell BP2.out 0).trans rfl
    have hcz1 : w8.cell? ⟨gp, 1, none⟩ = some (.int .i64 a1) := (blk_cell BP2.out 1).trans rfl
    have hcz2 : w8.cell? ⟨gp, 2, none⟩ = some (.int .i64 (l2.length : Int)) := (blk_cell BP2.out 2).trans rfl
    have hcz3 : w8.cell? ⟨gp, 3, none⟩ = some (.slice A2 l2.length c2) := (blk_cell BP2.out 3).trans rfl
    go_wp2_with fail
    refine (impl_page_bytes.calls k a0 a1 _ A2 c2 l2 pb _ (Kd.C_below HR.out HB3.out) HC.out N2.out).mono ?_
    rintro e w9 ⟨v9, rfl, ho9, hb9⟩
    have HO9 := Aside0.mk (Kd.R_lower ho9 HB3.out.size)
    have HB9 := Aside0.mk (below_step HB3.out hb9)
    clear ho9 hb9
    go_wp2_with fail
    go_ret2
    exact ⟨_, rfl, HO9.out, HB9.out⟩
end Go.Proofs.Ytlopmffdebhpfaa.G
