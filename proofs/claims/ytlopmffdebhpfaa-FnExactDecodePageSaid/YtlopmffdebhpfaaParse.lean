/- impl.parsePage: a page with its fault, for a slice of bytes that is read; the page's body is a part of that slice. (The steps of its regions that draw their order are printed by wip/gen/rg.py.) -/
import Derived.Test.YtlopmffdebhpfaaBase
import Derived.Test.YtlopmffdebhpfaaBlk
import Derived.Test.YtlopmffdebhpfaaHead
import Derived.Test.YtlopmffdebhpfaaPageB
import Derived.Test.YtlopmffdebhpfaaG130
import Derived.Test.YtlopmffdebhpfaaG79
import Derived.Test.YtlopmffdebhpfaaG131
namespace Go.Proofs.Ytlopmffdebhpfaa.G
open Go.RowKit Go.Proofs.YtlopmffdebhpfaaW.PrintWords Go.Proofs.YtlopmffdebhpfaaW.PrintLast Go.Proofs.YtlopmffdebhpfaaW.PrintMore
set_option linter.unusedVariables false
set_option linter.unusedSimpArgs false

def errNoPageS : ByteArray := { data := #[110, 111, 32, 115, 117, 99, 104, 32, 112, 97, 103, 101] }
def errFormS : ByteArray := { data := #[110, 111, 32, 112, 97, 103, 101, 32, 111, 102, 32, 116, 104, 105, 115, 32, 105, 100] }
/-- The fault's value: none, no such page, no page of this id. -/
def perr : Nat → Value
  | 0 => .nilIface
  | 1 => .iface 108 (.string { data := #[110, 111, 32, 115, 117, 99, 104, 32, 112, 97, 103, 101] })
  | _ => .iface 108 (.string { data := #[110, 111, 32, 112, 97, 103, 101, 32, 111, 102, 32, 116, 104, 105, 115, 32, 105, 100] })
/-- The fault's number, the head's three numbers, the body. -/
def impl_parsePage.f (k : Nat) (a0 : Int) (l1 : List Int) : Option (Nat × Int × Int × Int × List Int) :=
  if l1.length = 256 then
    (impl_numberAt.f k ((l1.take 12).drop 10)).bind fun sz =>
    (impl_head_valid.f a0 (wrap64 (rd l1 8)) sz).bind fun hv =>
    if hv = true then
      (if 0 ≤ sz ∧ sz ≤ 240 then
        (impl_page_bytes.f k a0 (wrap64 (rd l1 8)) sz ((l1.take (16 + sz).toNat).drop 16)).bind fun pb =>
        (bytes_Equal.f pb l1).bind fun eq => if eq = true then some (0, a0, wrap64 (rd l1 8), sz, (l1.take (16 + sz).toNat).drop 16) else some (2, 0, 0, 0, [])
      else none)
    else some (2, 0, 0, 0, [])
  else some (1, 0, 0, 0, [])
theorem impl_parsePage.mono : ∀ a0 a1 k, LeO (impl_parsePage.f k a0 a1) (impl_parsePage.f (k + 1) a0 a1) := by
  intro a0 a1 k
  unfold impl_parsePage.f
  exact LeO.ite (LeO.bind (impl_numberAt.mono _ _) (fun _ => LeO.bind (LeO.refl _) (fun _ => LeO.ite (LeO.ite (LeO.bind (impl_page_bytes.mono _ _ _ _ _) (fun _ => LeO.refl _)) (LeO.refl _)) (LeO.refl _)))) (LeO.refl _)
theorem results_cell_slot {P : Program} {fn : Func} {p q : Tmp} {ty : TypeId} (h : fn.results = #[.cell p ty, .tmp q]) (tmps : Array Value) (w : World) (g : Nat) (t : TypeId) (cs : Array Value) (fr : Nat × Nat) (d : TypeDesc) (v : Value)
    (hp : tmps.getD p undef = .pointer (some ⟨g, 0, none⟩)) (hv : tmps.getD q undef = v) (hg : w.heap[g]? = some (.cells cs t fr))
    (hu : P.underlying ty = some d) (hd : (match d with | .struct _ | .array _ _ => true | _ => false) = true) (hi : (P.info? ty).map (·.size) = some cs.size) :
    (results fn tmps).run P w = .ok (.tuple #[.agg cs, v]) w := by
  have hp' : tmps[p]?.getD undef = .pointer (some ⟨g, 0, none⟩) := by simpa using hp
  have hv' : tmps[q]?.getD undef = v := by simpa using hv
  simp [results, h, hp', hv', asAddr, run_loadVar_row w g t ty cs fr d hg hu hd hi]

def impl_parsePage.T3 : Bool × List (List Nat × List Nat) := (true, [([], []), ([], []), ([1], [1]), ([2], [2]), ([3], [3]), ([], []), ([5], [5]), ([6], [6]), ([0, 4, 7], [0, 4, 7]), ([], []), ([9, 8, 7, 0, 1, 2, 3, 4, 5, 6, 7, 8, 9], [8, 9])])
def impl_parsePage.B3 : List Nat := [0, 0, 2, 6, 14, 0, 32, 96, 255, 0, 1023]
theorem impl_parsePage.tab3 : rtab .any (opsOf Try.f70 3) = impl_parsePage.T3 := by kernel_rfl
theorem impl_parsePage.bits3 : waitsOk impl_parsePage.T3.2 impl_parsePage.B3 = true := by kernel_rfl
def impl_parsePage.T6 : Bool × List (List Nat × List Nat) := (true, [([], []), ([], []), ([], []), ([2], [2]), ([3], [3]), ([1, 4], [1, 4]), ([0, 5], [0, 5]), ([], []), ([7, 6, 0, 1, 2, 3, 4, 5, 6, 7], [6, 7])])
def impl_parsePage.B6 : List Nat := [0, 0, 0, 4, 12, 30, 63, 0, 255]
theorem impl_parsePage.tab6 : rtab .any (opsOf Try.f70 6) = impl_parsePage.T6 := by kernel_rfl
theorem impl_parsePage.bits6 : waitsOk impl_parsePage.T6.2 impl_parsePage.B6 = true := by kernel_rfl
set_option maxHeartbeats 4000000 in
set_option maxRecDepth 100000 in
theorem impl_parsePage.calls (k : Nat) (a0 : Int) (A1 : Option Addr) (c1 : Nat) (l1 : List Int) (r : Nat × Int × Int × Int × List Int) (w : World) (ok : Nat → Prop) (hF : Kd.F (Kd.int .u8) w ok A1 l1.length l1) (hc1 : l1.length ≤ c1) (h : impl_parsePage.f k a0 l1 = some r) :
    Calls Try.prog 70 #[.int .i64 a0, .slice A1 l1.length c1] w fun e w' => ∃ A c, e = .returned (.tuple #[.agg #[.int .i64 r.2.1, .int .i64 r.2.2.1, .int .i64 r.2.2.2.1, .slice A r.2.2.2.2.length c], perr r.1]) ∧ r.2.2.2.2.length ≤ c ∧ Kd.F (Kd.int .u8) w' ok A r.2.2.2.2.length r.2.2.2.2 ∧ Below w.heap.size w w' := by
  have hu102 := Try.underlying102
  have hu100 := Try.underlying100
  unfold impl_parsePage.f at h
  by_cases hl : l1.length = 256
  case neg =>
    rw [if_neg hl] at h
    obtain rfl := Option.some.inj h
    clear h
    have c3b0 : ((l1.length : Int) == 256) = false := beq_eq_false_iff_ne.mpr (by omega)
    have c3b1 : ((l1.length : Int) != 256) = true := bne_iff_ne.mpr (by omega)
    go_enter Try.func70, Try.ntmps70
    go_wp2_with (first | ((with_reducible refine gate_dst (N := 4) rfl ?_); refine box_event ?hg (N := 4) ?hd (cs := #[.int .i64 0, .int .i64 0, .int .i64 0, .slice none 0 0]) (t := 102) ?hr ?_; (case hd => rfl); (case hg => rfl); (case hr => first | (go_simp; done) | (go_simp; rfl)); intro gr hgr w6 hbox hbel; have BK := Aside0.mk hbox; have HB := Aside0.mk hbel; have GB := Aside0.mk hgr; clear hbox hbel hgr) | ((with_reducible refine gate_ (.store 102 (.tmp 4) (.tmp 11)) rfl ?_); refine store_blk rfl rfl 102 (.tmp 4) (.tmp 11) rfl (off := 0) (u := .agg #[.int .i64 0, .int .i64 0, .int .i64 0, .slice none 0 0]) #[.int .i64 0, .int .i64 0, .int .i64 0, .slice none 0 0] rfl rfl BK.out [.int .i64 0, .int .i64 0, .int .i64 0, .slice none 0 0] rfl (by kernel_rfl) (Nat.le_of_ble_eq_true rfl) rfl rfl ?_; intro w7 hblk hgrw; have BK2 := Aside0.mk hblk; have HB2 := Aside0.mk (HB.out.grown hgrw HB.out.size (by intro q hq; cases hq; exact Nat.le_of_eq GB.out.symm)); clear hblk hgrw))
    refine bodyPost_ret (results_cell_slot rfl _ _ gr 102 #[.int .i64 0, .int .i64 0, .int .i64 0, .slice none 0 0] (0, 0) _ _ rfl rfl BK2.out Try.underlying102 rfl (by kernel_rfl)) rfl ?_
    exact ⟨none, 0, rfl, Nat.le_refl _, Kd.F_nil _ _ _, HB2.out⟩
  rw [if_pos hl] at h
  obtain ⟨sz, H1, h⟩ := Option.bind_eq_some_iff.mp h
  obtain ⟨hv, H2, h⟩ := Option.bind_eq_some_iff.mp h
  have N1 := Aside0.mk H1
  have N2 := Aside0.mk H2
  clear H1 H2
  have H := Aside0.mk h
  clear h
  have c3b0 : ((l1.length : Int) == 256) = true := beq_iff_eq.mpr (by omega)
  have c3b1 : ((l1.length : Int) != 256) = false := bne_eq_false_iff_eq.mpr (by omega)
  have q8a : decide (8 < (l1.length : Int)) = true := decide_eq_true (by omega)
  have q8b : decide (8 < l1.length) = true := decide_eq_true (by omega)
  have q8c : (8 < l1.length) = True := eq_true (by omega)
  have q8d : ((8 : Int) < (l1.length : Int)) = True := eq_true (by omega)
  obtain ⟨ad, rfl, hx8⟩ := Kd.at_int (Kd.F_now hF) 8 (by omega) (by omega)
  (try simp only [show (8 : Int).toNat = 8 from rfl, Nat.reduceMul, Nat.reduceEqDiff, Go.Addr.add, ↓reduceIte] at hx8)
  have HX8 := Aside0.mk hx8
  clear hx8
  obtain ⟨i0, hi0, _, hsz0, _⟩ := info_parts info5
  have HI := Aside0.mk hi0
  have HZ := Aside0.mk hsz0
  clear hi0 hsz0
  have HF := Aside0.mk hF
  have HC := Aside0.mk hc1
  have HL := Aside0.mk hl
  clear hF hc1 hl
  obtain ⟨A2, hcut2, hF2⟩ : ∃ A2, (∀ W : World, (Instr.slice 22 (.slice (some ad) l1.length c1) (some (.int .i64 10)) (some (.int .i64 12)) none).run Try.prog W = .ok (.slice A2 2 (c1 - 10)) W) ∧ Kd.F (Kd.int .u8) w ok A2 ((l1.take 12).drop 10).length ((l1.take 12).drop 10) := by
    refine ⟨_, cut_mid 22 5 .i64 .i64 Try.underlying22 HI.out 1 HZ.out (some ad) l1.length c1 10 12 (by decide) (by decide) (by have := HL.out; omega) HC.out, ?_⟩
    exact Kd.F_mid HF.out (by decide) (by have := HL.out; omega) HC.out
  have hln2 : ((l1.take 12).drop 10).length = 2 := by rw [List.length_drop, List.length_take, HL.out]; rfl
  have HF2 := Aside0.mk hF2
  have HLN := Aside0.mk hln2
  clear hF2 hln2
  go_enter Try.func70, Try.ntmps70
  go_wp2_with (first | ((with_reducible refine gate_dst (N := 4) rfl ?_); refine box_event ?hg (N := 4) ?hd (cs := #[.int .i64 0, .int .i64 0, .int .i64 0, .slice none 0 0]) (t := 102) ?hr ?_; (case hd => rfl); (case hg => rfl); (case hr => first | (go_simp; done) | (go_simp; rfl)); intro gr hgr w6 hbox hbel; have BK := Aside0.mk hbox; have HB := Aside0.mk hbel; have GB := Aside0.mk hgr; clear hbox hbel hgr))
  refine start_ (n := 11) (S := fun w' => w'.heap[gr]? = some (.cells #[.int .i64 0, .int .i64 0, .int .i64 0, .slice none 0 0] 102 (0, 0)) ∧ Below w.heap.size w w') (ds := []) #[false, false, false, false, false, false, false, false, false, false, false] (by kernel_rfl) rfl rfl (⟨blk_drew BK.out, below_drew1 HB.out⟩) (fun hHeld => ?_); refine with_tabW impl_parsePage.tab3 impl_parsePage.bits3 (fun HT_ HW_ => ?_)
  clear BK HB
  refine pure_ (i := 0) (N := some 13) (v := ?_) (a' := ?_) #[true, false, false, false, false, false, false, false, false, false, false] rfl rfl (any_of HT_.out (by kernel_rfl)) (fun _ _ _ h => h) (Or.inl ⟨by rfl, ?_⟩) ?_ ?_
  rotate_left
  · intro w'
    go_simp
    with_reducible rfl
  rotate_left
  · simp only [Act.put, List.setIfInBounds_toArray, List.set_cons_zero, List.set_cons_succ, i64_w, i32_w]
    rfl
  refine pure_ (i := 1) (N := some 14) (v := ?_) (a' := ?_) #[true, true, false, false, false, false, false, false, false, false, false] rfl rfl (any_of HT_.out (by kernel_rfl)) (fun _ _ _ h => h) (Or.inl ⟨by rfl, ?_⟩) ?_ ?_
  rotate_left
  · intro w'
    go_simp
    with_reducible rfl
  rotate_left
  · simp only [Act.put, List.setIfInBounds_toArray, List.set_cons_zero, List.set_cons_succ, i64_w, i32_w]
    rfl
  refine pure_ (i := 2) (N := some 15) (v := ?_) (a' := ?_) #[true, true, true, false, false, false, false, false, false, false, false] rfl rfl (any_of HT_.out (by kernel_rfl)) (fun _ _ _ h => h) (Or.inl ⟨by rfl, ?_⟩) ?_ ?_
  rotate_left
  · intro w'
    go_simp
    with_reducible rfl
  rotate_left
  · simp only [Act.put, List.setIfInBounds_toArray, List.set_cons_zero, List.set_cons_succ, i64_w, i32_w]
    rfl
  refine take_ (i := 3) (N := some 16) (v := ?_) (a' := ?_) #[true, true, true, true, false, false, false, false, false, false, false] rfl rfl (take_ofW HT_.out HW_.out (by kernel_rfl)) (fun _ _ _ h => h) (Or.inl ⟨by rfl, ?_⟩) hHeld ?_ ?_
  rotate_left
  · intro w' s0
    have hc8_ : w'.cell? ⟨ad.block, ad.off + 8, none⟩ = some (.int .u8 (rd l1 8)) := (s0.2.cell (World.block_lt_of_cell? w _ HX8.out)).trans HX8.out
    clear s0
    go_simp
    with_reducible rfl
  rotate_left
  · simp only [Act.put, List.setIfInBounds_toArray, List.set_cons_zero, List.set_cons_succ, i64_w, i32_w]
    rfl
  refine pure_ (i := 4) (N := some 17) (v := ?_) (a' := ?_) #[true, true, true, true, true, false, false, false, false, false, false] rfl rfl (any_of HT_.out (by kernel_rfl)) (fun _ _ _ h => h) (Or.inl ⟨by rfl, ?_⟩) ?_ ?_
  rotate_left
  · intro w'
    go_simp
    with_reducible rfl
  rotate_left
  · simp only [Act.put, List.setIfInBounds_toArray, List.set_cons_zero, List.set_cons_succ, i64_w, i32_w]
    rfl
  refine pure_ (i := 5) (N := some 18) (v := ?_) (a' := ?_) #[true, true, true, true, true, true, false, false, false, false, false] rfl rfl (any_of HT_.out (by kernel_rfl)) (fun _ _ _ h => h) (Or.inl ⟨by rfl, ?_⟩) ?_ ?_
  rotate_left
  · intro w'
    go_simp
    with_reducible rfl
  rotate_left
  · simp only [Act.put, List.setIfInBounds_toArray, List.set_cons_zero, List.set_cons_succ, i64_w, i32_w]
    rfl
  refine pure_ (i := 6) (N := some 19) (v := ?_) (a' := ?_) #[true, true, true, true, true, true, true, false, false, false, false] rfl rfl (any_of HT_.out (by kernel_rfl)) (fun _ _ _ h => h) (Or.inl ⟨by rfl, ?_⟩) ?_ ?_
  rotate_left
  · intro w'
    go_simp
    with_reducible rfl
  rotate_left
  · simp only [Act.put, List.setIfInBounds_toArray, List.set_cons_zero, List.set_cons_succ, i64_w, i32_w]
    rfl
  refine join_ 1 #[true, true, true, true, true, true, true, true, true, true, false] (fun g : Nat => [(20, .int .i64 sz), (21, .agg #[.int .i64 a0, .int .i64 (wrap64 (rd l1 8)), .int .i64 sz]), (6, .pointer (some ⟨g, 0, none⟩))]) (fun g w' => w'.heap[g]? = some (.cells #[.int .i64 0, .int .i64 0, .int .i64 0] 100 (0, 0)) ∧ (w'.heap[gr]? = some (.cells #[.int .i64 0, .int .i64 0, .int .i64 0, .slice none 0 0] 102 (0, 0)) ∧ Below w.heap.size w w') ∧ w.heap.size ≤ g ∧ g ≠ gr) ?_ ?_
  rotate_left
  · intro hK0
    refine two_ (i := 7) (j := 9) (Ni := some 20) (Nj := some 6) #[true, true, true, true, true, true, true, true, false, false, false] #[true, true, true, true, true, true, true, false, false, true, false] rfl rfl rfl rfl (two_of HT_.out (by kernel_rfl)) (by decide) (by decide) (fun K hK => ?_) (fun K hK => ?_)
    · refine goes_ Try.func130 (by kernel_rfl) rfl #[.slice A2 2 (c1 - 10)] (by rfl) rfl rfl (by first | rfl | (simp only [List.map_toArray, List.map_cons, List.map_nil]; first | done | rfl)) ?_
      have hcr := impl_numberAt.calls k A2 (c1 - 10) ((l1.take 12).drop 10) sz _ (Kd.C_below (Kd.F_now HF2.out) hHeld.2) (by have := HLN.out; have := HC.out; have := HL.out; omega) N1.out
      rw [HLN.out] at hcr
      refine hcr.mono ?_
      clear hcr
      rintro e w9 ⟨rfl, hd9⟩
      refine ⟨_, rfl, ?_⟩
      have S9 := Aside0.mk (And.intro (blk_below hHeld.1 hd9.below) (below_step hHeld.2 hd9.below))
      clear hHeld hd9
      refine hK.out _ _ (S9.out) (fun hHeld => ?_)
      clear hK K
      refine norm_ (a' := ?_) ?_ ?_
      rotate_left
      · show Act.put _ (some 20) _ = _
        simp only [Act.put, List.setIfInBounds_toArray, List.set_cons_zero, List.set_cons_succ, i64_w, i32_w]
        rfl
      refine pure_ (i := 8) (N := some 21) (v := ?_) (a' := ?_) #[true, true, true, true, true, true, true, true, true, false, false] rfl rfl (any_of HT_.out (by kernel_rfl)) (fun _ _ _ h => h) (Or.inl ⟨by rfl, ?_⟩) ?_ ?_
      rotate_left
      · intro w'
        go_simp
        with_reducible rfl
      rotate_left
      · simp only [Act.put, List.setIfInBounds_toArray, List.set_cons_zero, List.set_cons_succ, i64_w, i32_w]
        rfl
      refine one_ (i := 9) (N := some 6) #[true, true, true, true, true, true, true, true, true, true, false] rfl rfl (one_of HT_.out (by kernel_rfl)) (by decide) (fun K hK => ?_)
      refine box_step (by rfl) (N := 6) rfl (cs := #[.int .i64 0, .int .i64 0, .int .i64 0]) (t := 100) ?hr ?_
      case hr => first | (go_simp; done) | (go_simp; rfl)
      intro gh hgh w10 hbox hbel
      have S10 := Aside0.mk (And.intro hbox (And.intro (And.intro (blk_below S9.out.1 hbel) (below_step S9.out.2 hbel)) (And.intro (show w.heap.size ≤ gh by rw [hgh]; exact S9.out.2.size) (show gh ≠ gr by have := blk_lt S9.out.1; omega))))
      clear hHeld hbox hbel hgh S9
      refine hK.out _ _ S10.out.2.1 (fun hHeld => ?_)
      clear hK K
      exact hK0 gh _ S10.out
    · refine box_step (by rfl) (N := 6) rfl (cs := #[.int .i64 0, .int .i64 0, .int .i64 0]) (t := 100) ?hr ?_
      case hr => first | (go_simp; done) | (go_simp; rfl)
      intro gh hgh w10 hbox hbel
      have S10 := Aside0.mk (And.intro hbox (And.intro (And.intro (blk_below hHeld.1 hbel) (below_step hHeld.2 hbel)) (And.intro (show w.heap.size ≤ gh by rw [hgh]; exact hHeld.2.size) (show gh ≠ gr by have := blk_lt hHeld.1; omega))))
      clear hHeld hbox hbel hgh
      refine hK.out _ _ (S10.out.2.1) (fun hHeld => ?_)
      clear hK K
      refine norm_ (a' := ?_) ?_ ?_
      rotate_left
      · show Act.put _ (some 6) _ = _
        simp only [Act.put, List.setIfInBounds_toArray, List.set_cons_zero, List.set_cons_succ, i64_w, i32_w]
        rfl
      refine one_ (i := 7) (N := some 20) #[true, true, true, true, true, true, true, true, false, true, false] rfl rfl (one_of HT_.out (by kernel_rfl)) (by decide) (fun K hK => ?_)
      refine goes_ Try.func130 (by kernel_rfl) rfl #[.slice A2 2 (c1 - 10)] (by rfl) rfl rfl (by first | rfl | (simp only [List.map_toArray, List.map_cons, List.map_nil]; first | done | rfl)) ?_
      have hcr := impl_numberAt.calls k A2 (c1 - 10) ((l1.take 12).drop 10) sz _ (Kd.C_below (Kd.F_now HF2.out) hHeld.2) (by have := HLN.out; have := HC.out; have := HL.out; omega) N1.out
      rw [HLN.out] at hcr
      refine hcr.mono ?_
      clear hcr
      rintro e w9 ⟨rfl, hd9⟩
      refine ⟨_, rfl, ?_⟩
      have S9 := Aside0.mk (And.intro (blk_below S10.out.1 hd9.below) (And.intro (And.intro (blk_below hHeld.1 hd9.below) (below_step hHeld.2 hd9.below)) S10.out.2.2))
      clear hHeld hd9 S10
      refine hK.out _ _ (S9.out.2.1) (fun hHeld => ?_)
      clear hK K
      refine norm_ (a' := ?_) ?_ ?_
      rotate_left
      · show Act.put _ (some 20) _ = _
        simp only [Act.put, List.setIfInBounds_toArray, List.set_cons_zero, List.set_cons_succ, i64_w, i32_w]
        rfl
      refine pure_ (i := 8) (N := some 21) (v := ?_) (a' := ?_) #[true, true, true, true, true, true, true, true, true, true, false] rfl rfl (any_of HT_.out (by kernel_rfl)) (fun _ _ _ h => h) (Or.inl ⟨by rfl, ?_⟩) ?_ ?_
      rotate_left
      · intro w'
        go_simp
        with_reducible rfl
      rotate_left
      · simp only [Act.put, List.setIfInBounds_toArray, List.set_cons_zero, List.set_cons_succ, i64_w, i32_w]
        rfl
      exact hK0 gh _ S9.out
  rintro gh w11 ⟨hb11, ⟨hr11, hB11⟩, hge11, hne11⟩
  refine norm_ (a' := ?_) ?_ ?_
  rotate_left
  · skip
    simp only [putAll, Act.put, List.setIfInBounds_toArray, List.set_cons_zero, List.set_cons_succ, i64_w, i32_w]
    rfl
  have hHeld := And.intro hr11 hB11
  refine one_ (i := 10) (N := none) #[true, true, true, true, true, true, true, true, true, true, true] rfl rfl (one_of HT_.out (by kernel_rfl)) (by decide) (fun K hK => ?_)
  refine store_blk_step (by rfl) rfl 100 (.tmp 6) (.tmp 21) rfl (off := 0) (u := .agg #[.int .i64 a0, .int .i64 (wrap64 (rd l1 8)), .int .i64 sz]) #[.int .i64 a0, .int .i64 (wrap64 (rd l1 8)), .int .i64 sz] rfl rfl hb11 [.int .i64 a0, .int .i64 (wrap64 (rd l1 8)), .int .i64 sz] rfl (by kernel_rfl) (Nat.le_of_ble_eq_true rfl) rfl rfl ?_
  intro w12 hblk hgrw
  have BH := Aside0.mk hblk
  have HB := Aside0.mk (hB11.grown hgrw hB11.size (by intro q hq; cases hq; exact hge11))
  have BK := Aside0.mk (blk_grown hr11 hgrw (by intro e; exact hne11 (Option.some.inj e).symm))
  have HNE : Aside0 (gh ≠ gr) := ⟨hne11⟩
  have HGE : Aside0 (w.heap.size ≤ gh) := ⟨hge11⟩
  clear hblk hgrw hb11 hr11 hB11 hge11 hne11 hHeld
  refine hK.out _ _ (⟨BK.out, HB.out⟩) (fun hHeld => ?_)
  clear hK K
  refine done_ (done_of HT_.out (by kernel_rfl)) ?_
  try clear hHeld
  have hcz0 : w12.cell? ⟨gh, 0, none⟩ = some (.int .i64 a0) := (blk_cell BH.out 0).trans rfl
  have hcz1 : w12.cell? ⟨gh, 1, none⟩ = some (.int .i64 (wrap64 (rd l1 8))) := (blk_cell BH.out 1).trans rfl
  have hcz2 : w12.cell? ⟨gh, 2, none⟩ = some (.int .i64 sz) := (blk_cell BH.out 2).trans rfl
  go_wp2_with fail
  refine (impl_head_valid.calls a0 _ sz hv _ N2.out).mono ?_
  rintro e w13 ⟨rfl, hb13⟩
  have BH2 := Aside0.mk (blk_below BH.out hb13)
  have HB2 := Aside0.mk (below_step HB.out hb13)
  have BK2 := Aside0.mk (blk_below BK.out hb13)
  clear BH HB BK hb13 hcz0 hcz1 hcz2
  have HGR : Aside0 (w.heap.size ≤ gr) := ⟨Nat.le_of_eq GB.out.symm⟩
  cases hv with
  | false =>
    have h := H.out
    rw [if_neg (by decide)] at h
    obtain rfl := Option.some.inj h
    clear h H
    go_wp2_with (first | ((with_reducible refine gate_ (.store 102 (.tmp 4) (.tmp 25)) rfl ?_); refine store_blk rfl rfl 102 (.tmp 4) (.tmp 25) rfl (off := 0) (u := .agg #[.int .i64 0, .int .i64 0, .int .i64 0, .slice none 0 0]) #[.int .i64 0, .int .i64 0, .int .i64 0, .slice none 0 0] rfl rfl BK2.out [.int .i64 0, .int .i64 0, .int .i64 0, .slice none 0 0] rfl (by kernel_rfl) (Nat.le_of_ble_eq_true rfl) rfl rfl ?_; intro w14 hblk hgrw; have BK3 := Aside0.mk hblk; have HB3 := Aside0.mk (HB2.out.grown hgrw HB2.out.size (by intro q hq; cases hq; exact HGR.out)); clear hblk hgrw))
    refine bodyPost_ret (results_cell_slot rfl _ _ gr 102 #[.int .i64 0, .int .i64 0, .int .i64 0, .slice none 0 0] (0, 0) _ _ rfl rfl BK3.out Try.underlying102 rfl (by kernel_rfl)) rfl ?_
    first | exact ⟨none, 0, rfl, Nat.le_refl _, Kd.F_nil _ _ _, HB3.out⟩ | exact ⟨none, ⟨0, rfl⟩, Kd.F_nil _ _ _, HB3.out⟩
  | true =>
    have h := H.out
    rw [if_pos rfl] at h
    clear H
    split at h
    case isFalse => cases h
    rename_i hsz
    obtain ⟨pb, H1, h⟩ := Option.bind_eq_some_iff.mp h
    obtain ⟨eq, H2, h⟩ := Option.bind_eq_some_iff.mp h
    have N3 := Aside0.mk H1
    have N4 := Aside0.mk H2
    have H := Aside0.mk h
    clear H1 H2 h
    obtain ⟨A3, hcut3, hF3⟩ : ∃ A3, (∀ W : World, (Instr.slice 22 (.slice (some ad) l1.length c1) (some (.int .i64 16)) (some (.int .i64 (16 + sz))) none).run Try.prog W = .ok (.slice A3 ((l1.take (16 + sz).toNat).drop 16).length (c1 - 16)) W) ∧ Kd.F (Kd.int .u8) w ok A3 ((l1.take (16 + sz).toNat).drop 16).length ((l1.take (16 + sz).toNat).drop 16) := by
      have hln : ((l1.take (16 + sz).toNat).drop 16).length = (16 + sz).toNat - (16 : Int).toNat := by rw [List.length_drop, List.length_take, HL.out]; omega
      refine ⟨_, fun W => (cut_mid 22 5 .i64 .i64 Try.underlying22 HI.out 1 HZ.out (some ad) l1.length c1 16 (16 + sz) (by decide) (by omega) (by have := HL.out; omega) HC.out W).trans (by rw [hln]; rfl), ?_⟩
      exact Kd.F_mid HF.out (by omega) (by have := HL.out; omega) HC.out
    have hwr : wrap64 (16 + sz) = 16 + sz := by unfold wrap64; omega
    have hbl : Aside0 (((l1.take (16 + sz).toNat).drop 16).length ≤ c1 - 16) := ⟨by rw [List.length_drop, List.length_take, HL.out]; have := HL.out; have := HC.out; omega⟩
    have HF3 := Aside0.mk hF3
    clear hF3
    generalize hbody : (l1.take (16 + sz).toNat).drop 16 = body at N3 H hcut3 hbl HF3
    clear hbody
    have hcz0 : w13.cell? ⟨gh, 0, none⟩ = some (.int .i64 a0) := (blk_cell BH2.out 0).trans rfl
    have hcz1 : w13.cell? ⟨gh, 1, none⟩ = some (.int .i64 (wrap64 (rd l1 8))) := (blk_cell BH2.out 1).trans rfl
    have hcz2 : w13.cell? ⟨gh, 2, none⟩ = some (.int .i64 sz) := (blk_cell BH2.out 2).trans rfl
    go_wp2_with fail
    refine start_ (n := 9) (S := fun w' => w'.heap[gh]? = some (.cells #[.int .i64 a0, .int .i64 (wrap64 (rd l1 8)), .int .i64 sz] 100 (0, 0)) ∧ w'.heap[gr]? = some (.cells #[.int .i64 0, .int .i64 0, .int .i64 0, .slice none 0 0] 102 (0, 0)) ∧ Below w.heap.size w w') (ds := []) #[false, false, false, false, false, false, false, false, false] (by kernel_rfl) rfl rfl (⟨blk_drew BH2.out, blk_drew BK2.out, below_drew1 HB2.out⟩) (fun hHeld => ?_); refine with_tabW impl_parsePage.tab6 impl_parsePage.bits6 (fun HT_ HW_ => ?_)
    clear BH2 BK2 HB2 hcz0 hcz1 hcz2
    refine take_ (i := 0) (N := some 27) (v := ?_) (a' := ?_) #[true, false, false, false, false, false, false, false, false] rfl rfl (take_ofW HT_.out HW_.out (by kernel_rfl)) (fun _ _ _ h => h) (Or.inl ⟨by rfl, ?_⟩) hHeld ?_ ?_
    rotate_left
    · intro w' s0
      have hcz0 : w'.cell? ⟨gh, 0, none⟩ = some (.int .i64 a0) := (blk_cell s0.1 0).trans rfl
      have hcz1 : w'.cell? ⟨gh, 1, none⟩ = some (.int .i64 (wrap64 (rd l1 8))) := (blk_cell s0.1 1).trans rfl
      have hcz2 : w'.cell? ⟨gh, 2, none⟩ = some (.int .i64 sz) := (blk_cell s0.1 2).trans rfl
      clear s0
      go_simp
      with_reducible rfl
    rotate_left
    · simp only [Act.put, List.setIfInBounds_toArray, List.set_cons_zero, List.set_cons_succ, i64_w, i32_w]
      rfl
    refine pure_ (i := 1) (N := some 28) (v := ?_) (a' := ?_) #[true, true, false, false, false, false, false, false, false] rfl rfl (any_of HT_.out (by kernel_rfl)) (fun _ _ _ h => h) (Or.inl ⟨by rfl, ?_⟩) ?_ ?_
    rotate_left
    · intro w'
      go_simp
      with_reducible rfl
    rotate_left
    · simp only [Act.put, List.setIfInBounds_toArray, List.set_cons_zero, List.set_cons_succ, i64_w, i32_w]
      rfl
    refine pure_ (i := 2) (N := some 29) (v := ?_) (a' := ?_) #[true, true, true, false, false, false, false, false, false] rfl rfl (any_of HT_.out (by kernel_rfl)) (fun _ _ _ h => h) (Or.inl ⟨by rfl, ?_⟩) ?_ ?_
    rotate_left
    · intro w'
      go_simp
      with_reducible rfl
    rotate_left
    · simp only [Act.put, List.setIfInBounds_toArray, List.set_cons_zero, List.set_cons_succ, i64_w, i32_w]
      rfl
    refine take_ (i := 3) (N := some 30) (v := ?_) (a' := ?_) #[true, true, true, true, false, false, false, false, false] rfl rfl (take_ofW HT_.out HW_.out (by kernel_rfl)) (fun _ _ _ h => h) (Or.inl ⟨by rfl, ?_⟩) hHeld ?_ ?_
    rotate_left
    · intro w' s0
      have hcz0 : w'.cell? ⟨gh, 0, none⟩ = some (.int .i64 a0) := (blk_cell s0.1 0).trans rfl
      have hcz1 : w'.cell? ⟨gh, 1, none⟩ = some (.int .i64 (wrap64 (rd l1 8))) := (blk_cell s0.1 1).trans rfl
      have hcz2 : w'.cell? ⟨gh, 2, none⟩ = some (.int .i64 sz) := (blk_cell s0.1 2).trans rfl
      clear s0
      go_simp
      with_reducible rfl
    rotate_left
    · simp only [Act.put, List.setIfInBounds_toArray, List.set_cons_zero, List.set_cons_succ, i64_w, i32_w]
      rfl
    refine pure_ (i := 4) (N := some 31) (v := ?_) (a' := ?_) #[true, true, true, true, true, false, false, false, false] rfl rfl (any_of HT_.out (by kernel_rfl)) (fun _ _ _ h => h) (Or.inl ⟨by rfl, ?_⟩) ?_ ?_
    rotate_left
    · intro w'
      go_simp
      simp only [i64_w, hwr]
      with_reducible rfl
    rotate_left
    · simp only [Act.put, List.setIfInBounds_toArray, List.set_cons_zero, List.set_cons_succ, i64_w, i32_w]
      rfl
    refine pure_ (i := 5) (N := some 32) (v := ?_) (a' := ?_) #[true, true, true, true, true, true, false, false, false] rfl rfl (any_of HT_.out (by kernel_rfl)) (fun _ _ _ h => h) (Or.inl ⟨by rfl, ?_⟩) ?_ ?_
    rotate_left
    · intro w'
      go_simp
      with_reducible rfl
    rotate_left
    · simp only [Act.put, List.setIfInBounds_toArray, List.set_cons_zero, List.set_cons_succ, i64_w, i32_w]
      rfl
    refine pure_ (i := 6) (N := some 33) (v := ?_) (a' := ?_) #[true, true, true, true, true, true, true, false, false] rfl rfl (any_of HT_.out (by kernel_rfl)) (fun _ _ _ h => h) (Or.inl ⟨by rfl, ?_⟩) ?_ ?_
    rotate_left
    · intro w'
      go_simp
      with_reducible rfl
    rotate_left
    · simp only [Act.put, List.setIfInBounds_toArray, List.set_cons_zero, List.set_cons_succ, i64_w, i32_w]
      rfl
    refine one_ (i := 7) (N := some 7) #[true, true, true, true, true, true, true, true, false] rfl rfl (one_of HT_.out (by kernel_rfl)) (by decide) (fun K hK => ?_)
    refine box_step (by rfl) (N := 7) rfl (cs := #[.int .i64 0, .int .i64 0, .int .i64 0, .slice none 0 0]) (t := 102) ?hr ?_
    case hr => first | (go_simp; done) | (go_simp; rfl)
    intro gp hgp w14 hbox hbel
    have BP0 := Aside0.mk hbox
    have S14 := Aside0.mk (And.intro (blk_below hHeld.1 hbel) (And.intro (blk_below hHeld.2.1 hbel) (below_step hHeld.2.2 hbel)))
    have HGP : Aside0 (w.heap.size ≤ gp) := ⟨by rw [hgp]; exact hHeld.2.2.size⟩
    have HNP : Aside0 (gp ≠ gr) := ⟨by have := blk_lt hHeld.2.1; omega⟩
    have HNH : Aside0 (gp ≠ gh) := ⟨by have := blk_lt hHeld.1; omega⟩
    clear hbox hbel hHeld hgp
    refine hK.out _ _ (S14.out) (fun hHeld => ?_)
    clear hK K
    refine norm_ (a' := ?_) ?_ ?_
    rotate_left
    · show Act.put _ (some 7) _ = _
      simp only [Act.put, List.setIfInBounds_toArray, List.set_cons_zero, List.set_cons_succ, i64_w, i32_w]
      rfl
    refine one_ (i := 8) (N := none) #[true, true, true, true, true, true, true, true, true] rfl rfl (one_of HT_.out (by kernel_rfl)) (by decide) (fun K hK => ?_)
    refine store_blk_step (by rfl) rfl 102 (.tmp 7) (.tmp 33) rfl (off := 0) (u := .agg #[.int .i64 a0, .int .i64 (wrap64 (rd l1 8)), .int .i64 sz, .slice A3 body.length (c1 - 16)]) #[.int .i64 a0, .int .i64 (wrap64 (rd l1 8)), .int .i64 sz, .slice A3 body.length (c1 - 16)] rfl rfl BP0.out [.int .i64 a0, .int .i64 (wrap64 (rd l1 8)), .int .i64 sz, .slice A3 body.length (c1 - 16)] rfl (by kernel_rfl) (Nat.le_of_ble_eq_true rfl) rfl rfl ?_
    intro w15 hblk hgrw
    have BP := Aside0.mk hblk
    have HB3 := Aside0.mk (S14.out.2.2.grown hgrw S14.out.2.2.size (by intro q hq; cases hq; exact HGP.out))
    have BK3 := Aside0.mk (blk_grown S14.out.2.1 hgrw (by intro e; exact HNP.out (Option.some.inj e).symm))
    have BH3 := Aside0.mk (blk_grown S14.out.1 hgrw (by intro e; exact HNH.out (Option.some.inj e).symm))
    clear hblk hgrw BP0 S14 hHeld
    refine hK.out _ _ (⟨BH3.out, BK3.out, HB3.out⟩) (fun hHeld => ?_)
    clear hK K
    refine done_ (done_of HT_.out (by kernel_rfl)) ?_
    try clear hHeld
    have hcw0 : w15.cell? ⟨gp, 0, none⟩ = some (.int .i64 a0) := (blk_cell BP.out 0).trans rfl
    have hcw1 : w15.cell? ⟨gp, 1, none⟩ = some (.int .i64 (wrap64 (rd l1 8))) := (blk_cell BP.out 1).trans rfl
    have hcw2 : w15.cell? ⟨gp, 2, none⟩ = some (.int .i64 sz) := (blk_cell BP.out 2).trans rfl
    have hcw3 : w15.cell? ⟨gp, 3, none⟩ = some (.slice A3 body.length (c1 - 16)) := (blk_cell BP.out 3).trans rfl
    go_wp2_with fail
    refine (impl_page_bytes.calls k a0 _ sz A3 (c1 - 16) body pb _ (Kd.C_below (Kd.F_now HF3.out) HB3.out) hbl.out N3.out).mono ?_
    rintro e w16 ⟨v16, rfl, ho16, hb16⟩
    have HO16 := Aside0.mk ho16
    have BP4 := Aside0.mk (blk_below BP.out hb16)
    have BK4 := Aside0.mk (blk_below BK3.out hb16)
    have HB4 := Aside0.mk (below_step HB3.out hb16)
    clear ho16 hb16 BP BK3 BH3 HB3 hcw0 hcw1 hcw2 hcw3
    obtain ⟨A16, c16, ev16⟩ := Kd.R_slice HO16.out
    subst ev16
    go_wp2_with fail
    refine (bytes_Equal.calls A16 c16 pb (some ad) c1 l1 eq w16 (Kd.R_reads' HO16.out).2.2 (Kd.R_reads' HO16.out).2.1 (Kd.C_below (Kd.F_now HF.out) HB4.out) HC.out N4.out).mono ?_
    rintro e w17 ⟨rfl, hd17⟩
    have BP5 := Aside0.mk (blk_below BP4.out hd17.below)
    have BK5 := Aside0.mk (blk_below BK4.out hd17.below)
    have HB5 := Aside0.mk (below_step HB4.out hd17.below)
    clear hd17 HO16 BP4 BK4 HB4
    cases eq with
    | false =>
      have h := H.out
      rw [if_neg (by decide)] at h
      obtain rfl := Option.some.inj h
      clear h H
      go_wp2_with (first | ((with_reducible refine gate_ (.store 102 (.tmp 4) (.tmp 39)) rfl ?_); refine store_blk rfl rfl 102 (.tmp 4) (.tmp 39) rfl (off := 0) (u := .agg #[.int .i64 0, .int .i64 0, .int .i64 0, .slice none 0 0]) #[.int .i64 0, .int .i64 0, .int .i64 0, .slice none 0 0] rfl rfl BK5.out [.int .i64 0, .int .i64 0, .int .i64 0, .slice none 0 0] rfl (by kernel_rfl) (Nat.le_of_ble_eq_true rfl) rfl rfl ?_; intro w18 hblk hgrw; have BK6 := Aside0.mk hblk; have HG6 := Aside0.mk hgrw; have HB6 := Aside0.mk (HB5.out.grown hgrw HB5.out.size (by intro q hq; cases hq; exact HGR.out)); clear hblk hgrw))
      refine bodyPost_ret (results_cell_slot rfl _ _ gr 102 #[.int .i64 0, .int .i64 0, .int .i64 0, .slice none 0 0] (0, 0) _ _ rfl rfl BK6.out Try.underlying102 rfl (by kernel_rfl)) rfl ?_
      first | exact ⟨none, 0, rfl, Nat.le_refl _, Kd.F_nil _ _ _, HB6.out⟩ | exact ⟨none, ⟨0, rfl⟩, Kd.F_nil _ _ _, HB6.out⟩
    | true =>
      have h := H.out
      rw [if_pos rfl] at h
      obtain rfl := Option.some.inj h
      clear h H
      have hcw0 : w17.cell? ⟨gp, 0, none⟩ = some (.int .i64 a0) := (blk_cell BP5.out 0).trans rfl
      have hcw1 : w17.cell? ⟨gp, 1, none⟩ = some (.int .i64 (wrap64 (rd l1 8))) := (blk_cell BP5.out 1).trans rfl
      have hcw2 : w17.cell? ⟨gp, 2, none⟩ = some (.int .i64 sz) := (blk_cell BP5.out 2).trans rfl
      have hcw3 : w17.cell? ⟨gp, 3, none⟩ = some (.slice A3 body.length (c1 - 16)) := (blk_cell BP5.out 3).trans rfl
      go_wp2_with (first | ((with_reducible refine gate_ (.store 102 (.tmp 4) (.tmp 41)) rfl ?_); refine store_blk rfl rfl 102 (.tmp 4) (.tmp 41) rfl (off := 0) (u := .agg #[.int .i64 a0, .int .i64 (wrap64 (rd l1 8)), .int .i64 sz, .slice A3 body.length (c1 - 16)]) #[.int .i64 a0, .int .i64 (wrap64 (rd l1 8)), .int .i64 sz, .slice A3 body.length (c1 - 16)] rfl rfl BK5.out [.int .i64 a0, .int .i64 (wrap64 (rd l1 8)), .int .i64 sz, .slice A3 body.length (c1 - 16)] rfl (by kernel_rfl) (Nat.le_of_ble_eq_true rfl) rfl rfl ?_; intro w18 hblk hgrw; have BK6 := Aside0.mk hblk; have HG6 := Aside0.mk hgrw; have HB6 := Aside0.mk (HB5.out.grown hgrw HB5.out.size (by intro q hq; cases hq; exact HGR.out)); clear hblk hgrw))
      refine bodyPost_ret (results_cell_slot rfl _ _ gr 102 #[.int .i64 a0, .int .i64 (wrap64 (rd l1 8)), .int .i64 sz, .slice A3 body.length (c1 - 16)] (0, 0) _ _ rfl rfl BK6.out Try.underlying102 rfl (by kernel_rfl)) rfl ?_
      exact ⟨A3, c1 - 16, rfl, hbl.out, Kd.F_mono (Kd.F_grown (ok := fun k => ok k ∧ k < w.heap.size) (Kd.F_below (Kd.F_bound HF3.out) HB5.out) HG6.out (fun q hq e => by cases e; exact absurd hq.2 (by have := GB.out; omega))) (fun _ hk => hk.1), HB6.out⟩
end Go.Proofs.Ytlopmffdebhpfaa.G
