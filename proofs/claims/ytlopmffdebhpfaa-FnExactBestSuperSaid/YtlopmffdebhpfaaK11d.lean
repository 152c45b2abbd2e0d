/- Texts of this proof, joined in their build order: Best G117 G148 SuAt. -/
import Derived.Test.YtlopmffdebhpfaaK11c
import Derived.Test.YtlopmffdebhpfaaK11a
/-! ## Best -/
namespace Go.Proofs.Ytlopmffdebhpfaa.G
open Go.RowKit Go.Proofs.YtlopmffdebhpfaaW.PrintWords Go.Proofs.YtlopmffdebhpfaaW.PrintLast Go.Proofs.YtlopmffdebhpfaaW.PrintMore
set_option linter.unusedVariables false
set_option linter.unusedSimpArgs false

section
variable {P : Program} {ops : Array Oper} {o : Oper} {a : Act} {Q : Exit → Act → World → Prop}
theorem skip_step {W : World} {N : Option Tmp} {K : Act → World → Prop} (hw : Region.wanted o (yielded ops a.tmps) = false) (h : K (a.put N undef) W) : if Region.wanted o (yielded ops a.tmps) = true then Oper.wp P o a W K Q else K (a.put N undef) W := by
  rw [hw]
  exact h
end
def bestStep (k : Nat) (safe : List (List Int)) (ps : List S185) (id : Int) (b : Int × Int × Int × Int) : Option (Int × Int × Int × Int) :=
  (impl_dpage.f k safe ps id).bind fun p => if p.1 = 0 then (if p.2.2.1 = 1 then (if p.2.2.2.2.length = 20 then
    ((impl_numberAt.f k (p.2.2.2.2.take 8)).bind fun n0 => (impl_numberAt.f k ((p.2.2.2.2.take 12).drop 8)).bind fun n1 => (impl_numberAt.f k ((p.2.2.2.2.take 16).drop 12)).bind fun n2 => (impl_numberAt.f k ((p.2.2.2.2.take 20).drop 16)).bind fun n3 =>
      if okSuper n0 n1 n2 n3 = true then (if Int.tmod n0 2 = id then (if n2 ≤ (safe.length : Int) / 4 then (if b.1 < n0 then some (n0, n1, n2, n3) else some b) else some b) else some b) else some b)
    else some b) else some b) else some b
def bestN (k : Nat) (safe : List (List Int)) (ps : List S185) : Nat → Option (Int × Int × Int × Int)
  | 0 => some (0, 0, 0, 0)
  | n + 1 => (bestN k safe ps n).bind fun b => bestStep k safe ps n b
theorem bestN_some {k : Nat} {safe : List (List Int)} {ps : List S185} : ∀ (n m : Nat) {b : Int × Int × Int × Int}, bestN k safe ps n = some b → m ≤ n → ∃ a, bestN k safe ps m = some a
  | 0, m, b, h, hm => ⟨b, by rw [show m = 0 by omega]; exact h⟩
  | n + 1, m, b, h, hm => by
    rcases Nat.lt_or_ge n m with h1 | h1
    · exact ⟨b, by rw [show m = n + 1 by omega]; exact h⟩
    · obtain ⟨a, ha, _⟩ := Option.bind_eq_some_iff.mp h
      exact bestN_some n m ha h1
def impl_bestSuper.T7 : Bool × List (List Nat × List Nat) := (true, [([], []), ([0], [0]), ([1], [1]), ([2], [2]), ([], []), ([4], [4]), ([5], [5]), ([6, 3], [6]), ([], []), ([8], [8]), ([9], [9]), ([10, 7], [10]), ([], []), ([12], [12]), ([13], [13]), ([14, 11], [14]), ([3, 7, 11, 15], [3, 7, 11, 15]), ([], []), ([17, 16, 15, 0, 1, 2, 3, 4, 5, 6, 7, 8, 9, 10, 11, 12, 13, 14, 15, 16, 17], [16, 17])])
def impl_bestSuper.B7 : List Nat := [0, 1, 3, 7, 0, 16, 48, 127, 0, 256, 768, 2047, 0, 4096, 12288, 32767, 65535, 0, 262143]
theorem impl_bestSuper.tab7 : rtab .any (opsOf Try.f120 7) = impl_bestSuper.T7 := by kernel_rfl
theorem impl_bestSuper.bits7 : waitsOk impl_bestSuper.T7.2 impl_bestSuper.B7 = true := by kernel_rfl
def impl_bestSuper.T8 : Bool × List (List Nat × List Nat) := (true, [([], []), ([0], [0]), ([1, 1], [1]), ([2], [2]), ([3, 2], [2, 3]), ([4, 2], [2, 4]), ([2], [2]), ([5, 6, 2], [2, 5, 6]), ([2, 7], [2, 7]), ([8, 2], [8]), ([9], [9]), ([10, 9], [9, 10]), ([9], [9]), ([12, 9], [9, 12]), ([13, 9], [9, 13]), ([14, 9], [9, 14]), ([15, 9, 9], [9, 15]), ([11, 16, 9], [9, 11, 16]), ([9, 17], [9, 17]), ([18, 16], [18]), ([19], [19]), ([20, 19], [19, 20]), ([19], [19]), ([22, 19], [19, 22]), ([21, 23, 19], [19, 21, 23]), ([19, 24], [19, 24])])
def impl_bestSuper.B8 : List Nat := [0, 1, 3, 7, 15, 31, 7, 127, 255, 511, 1023, 2047, 1023, 5119, 13311, 29695, 62463, 131071, 262143, 524287, 1048575, 2097151, 1048575, 5242879, 16777215, 33554431]
theorem impl_bestSuper.tab8 : rtab .any (opsOf Try.f120 8) = impl_bestSuper.T8 := by kernel_rfl
theorem impl_bestSuper.bits8 : waitsOk impl_bestSuper.T8.2 impl_bestSuper.B8 = true := by kernel_rfl
def impl_bestSuper.T11 : Bool × List (List Nat × List Nat) := (true, [([], []), ([], []), ([1], [1]), ([2], [2]), ([0, 0], [0]), ([3, 4, 0, 1, 2, 3, 4], [3])])
def impl_bestSuper.B11 : List Nat := [0, 0, 2, 6, 1, 31]
theorem impl_bestSuper.tab11 : rtab .any (opsOf Try.f120 11) = impl_bestSuper.T11 := by kernel_rfl
theorem impl_bestSuper.bits11 : waitsOk impl_bestSuper.T11.2 impl_bestSuper.B11 = true := by kernel_rfl
set_option maxHeartbeats 16000000 in
set_option maxRecDepth 100000 in
theorem impl_bestSuper.calls (k : Nat) (g b n : Nat) (A0 : Option Addr) (c0 : Nat) (safe : List (List Int)) (A1 : Option Addr) (c1 : Nat) (ps : List S185) (r : Int × Int × Int × Int) (w0 w : World) (hd : IsDev w g b A0 safe.length c0 A1 ps.length c1) (hl : LMap w b n (lastM ps)) (hgb : g ≠ b) (hB : Below w0.heap.size w0 w) (hg : w0.heap.size ≤ g)
    (hr0 : Kd.C (Kd.slice 5 (Kd.int .u8)) w0 A0 safe.length safe) (hr1 : Kd.C k185 w0 A1 ps.length ps) (hc0 : safe.length ≤ c0) (hc1 : ps.length ≤ c1) (h : bestN k safe ps 2 = some r) :
    Calls Try.prog 120 #[.pointer (some ⟨g, 0, none⟩)] w fun e w' => e = .returned (.tuple #[.agg #[.int .i64 r.1, .int .i64 r.2.1, .int .i64 r.2.2.1, .int .i64 r.2.2.2], .bool (decide (0 < r.1))]) ∧ Below w.heap.size w w' := by
  have hu44 := Try.underlying44
  have hu81 := Try.underlying81
  have hu102 := Try.underlying102
  have hu100 := Try.underlying100
  have hu159 := Try.underlying159
  have hpg : impl_Disk_pages.f safe ps = some ((safe.length : Int) / 4) := by
    have := hr0.2.1
    unfold impl_Disk_pages.f
    congr 1
    unfold wrap64
    omega
  have HR0 := Aside0.mk hr0
  have HR1 := Aside0.mk hr1
  have HC0 := Aside0.mk hc0
  have HC1 := Aside0.mk hc1
  have HD := Aside0.mk hd
  have HL := Aside0.mk hl
  have HBW := Aside0.mk hB
  have HG := Aside0.mk hg
  have NP := Aside0.mk hpg
  have NB := Aside0.mk h
  obtain ⟨i0, hi0, _, hsz0, _⟩ := info_parts info5
  have HI := Aside0.mk hi0
  have HZ := Aside0.mk hsz0
  clear hr0 hr1 hc0 hc1 hd hl hB hg hpg h hi0 hsz0
  go_enter Try.func120, Try.ntmps120
  go_wp2_with (first | ((with_reducible refine gate_dst (N := 2) rfl ?_); refine box_event ?hg (N := 2) ?hd (cs := #[.int .i64 0, .int .i64 0, .int .i64 0, .int .i64 0]) (t := 81) ?hr ?_; (case hd => rfl); (case hg => rfl); (case hr => first | (go_simp; done) | (go_simp; rfl)); intro g2 hgr w1 hbox hbel; have BR := Aside0.mk hbox; have HB := Aside0.mk hbel; have G2 : Aside0 (w.heap.size ≤ g2) := ⟨Nat.le_of_eq hgr.symm⟩; clear hbox hbel hgr) | ((with_reducible refine gate_dst (N := 4) rfl ?_); refine box_event ?hg (N := 4) ?hd (cs := #[.int .i64 0, .int .i64 0, .int .i64 0, .int .i64 0]) (t := 81) ?hr ?_; (case hd => rfl); (case hg => rfl); (case hr => first | (go_simp; done) | (go_simp; rfl)); intro g4 hgr w2 hbox hbel; have BB := Aside0.mk hbox; have N24 : Aside0 (g2 ≠ g4) := ⟨by have := blk_lt BR.out; omega⟩; have G4 : Aside0 (w.heap.size ≤ g4) := ⟨by rw [hgr]; exact HB.out.size⟩; have BR := Aside0.mk (blk_below BR.out hbel); have HB := Aside0.mk (below_step HB.out hbel); clear hbox hbel hgr))
  go_loopg [9] 2 (fun gk v9 w' => ∃ (x b0 b1 b2 b3 : Int), v9 = .int .i64 x ∧ Aside0 (0 ≤ x ∧ (gk : Int) + x = 2) ∧ Aside0 (bestN k safe ps x.toNat = some (b0, b1, b2, b3)) ∧ Aside0 (w'.heap[g4]? = some (.cells #[.int .i64 b0, .int .i64 b1, .int .i64 b2, .int .i64 b3] 81 (0, 0))) ∧ Aside0 (w'.heap[g2]? = some (.cells #[.int .i64 0, .int .i64 0, .int .i64 0, .int .i64 0] 81 (0, 0))) ∧ Aside0 (Below w.heap.size w w'))
  case atStart =>
    exact ⟨0, 0, 0, 0, 0, rfl, ⟨by omega⟩, ⟨rfl⟩, BB, BR, HB⟩
  case round =>
    clear BB BR HB
    obtain ⟨x, b0, b1, b2, b3, rfl, HXK, HA, BB, BR, HB⟩ := hrel
    cases gk with
    | zero =>
      have hx : x = 2 := by have := HXK.out; omega
      subst hx
      have hacc := HA.out
      rw [show (2 : Int).toNat = 2 from rfl, NB.out] at hacc
      obtain rfl := Option.some.inj hacc
      clear hacc
      go_wp2_with fail
      refine start_ (n := 6) (S := fun w' => w'.heap[g4]? = some (.cells #[.int .i64 b0, .int .i64 b1, .int .i64 b2, .int .i64 b3] 81 (0, 0))) (ds := []) #[false, false, false, false, false, false] (by kernel_rfl) rfl rfl (blk_drew BB.out) (fun hHeld => ?_); refine with_tabW impl_bestSuper.tab11 impl_bestSuper.bits11 (fun HT_ HW_ => ?_)
      have BR := Aside0.mk (blk_drew BR.out)
      have HB := Aside0.mk (below_drew1 HB.out)
      refine take_ (i := 0) (N := some 77) (v := ?_) (a' := ?_) #[true, false, false, false, false, false] rfl rfl (take_ofW HT_.out HW_.out (by kernel_rfl)) (fun _ _ _ h => h) (Or.inl ⟨by rfl, ?_⟩) hHeld ?_ ?_
      rotate_left
      · intro w' s0
        have hb0 : w'.cell? ⟨g4, 0, none⟩ = some (.int .i64 b0) := (blk_cell s0 0).trans rfl
        have hb1 : w'.cell? ⟨g4, 1, none⟩ = some (.int .i64 b1) := (blk_cell s0 1).trans rfl
        have hb2 : w'.cell? ⟨g4, 2, none⟩ = some (.int .i64 b2) := (blk_cell s0 2).trans rfl
        have hb3 : w'.cell? ⟨g4, 3, none⟩ = some (.int .i64 b3) := (blk_cell s0 3).trans rfl
        clear s0
        go_simp
        with_reducible rfl
      rotate_left
      · simp only [Act.put, List.setIfInBounds_toArray, List.set_cons_zero, List.set_cons_succ, i64_w, i32_w]
        rfl
      refine pure_ (i := 1) (N := some 78) (v := ?_) (a' := ?_) #[true, true, false, false, false, false] rfl rfl (any_of HT_.out (by kernel_rfl)) (fun _ _ _ h => h) (Or.inl ⟨by rfl, ?_⟩) ?_ ?_
      rotate_left
      · intro w'
        go_simp
        with_reducible rfl
      rotate_left
      · simp only [Act.put, List.setIfInBounds_toArray, List.set_cons_zero, List.set_cons_succ, i64_w, i32_w]
        rfl
      refine take_ (i := 2) (N := some 79) (v := ?_) (a' := ?_) #[true, true, true, false, false, false] rfl rfl (take_ofW HT_.out HW_.out (by kernel_rfl)) (fun _ _ _ h => h) (Or.inl ⟨by rfl, ?_⟩) hHeld ?_ ?_
      rotate_left
      · intro w' s0
        have hb0 : w'.cell? ⟨g4, 0, none⟩ = some (.int .i64 b0) := (blk_cell s0 0).trans rfl
        have hb1 : w'.cell? ⟨g4, 1, none⟩ = some (.int .i64 b1) := (blk_cell s0 1).trans rfl
        have hb2 : w'.cell? ⟨g4, 2, none⟩ = some (.int .i64 b2) := (blk_cell s0 2).trans rfl
        have hb3 : w'.cell? ⟨g4, 3, none⟩ = some (.int .i64 b3) := (blk_cell s0 3).trans rfl
        clear s0
        go_simp
        with_reducible rfl
      rotate_left
      · simp only [Act.put, List.setIfInBounds_toArray, List.set_cons_zero, List.set_cons_succ, i64_w, i32_w]
        rfl
      refine pure_ (i := 3) (N := some 80) (v := ?_) (a' := ?_) #[true, true, true, true, false, false] rfl rfl (any_of HT_.out (by kernel_rfl)) (fun _ _ _ h => h) (Or.inl ⟨by rfl, ?_⟩) ?_ ?_
      rotate_left
      · intro w'
        go_simp
        with_reducible rfl
      rotate_left
      · simp only [Act.put, List.setIfInBounds_toArray, List.set_cons_zero, List.set_cons_succ, i64_w, i32_w]
        rfl
      refine one_ (i := 4) (N := none) #[true, true, true, true, true, false] rfl rfl (one_of HT_.out (by kernel_rfl)) (by decide) (fun K hK => ?_)
      refine store_blk_step (by rfl) rfl 81 (.tmp 2) (.tmp 77) rfl (off := 0) (u := .agg #[.int .i64 b0, .int .i64 b1, .int .i64 b2, .int .i64 b3]) #[.int .i64 b0, .int .i64 b1, .int .i64 b2, .int .i64 b3] rfl rfl BR.out [.int .i64 b0, .int .i64 b1, .int .i64 b2, .int .i64 b3] rfl (by kernel_rfl) (Nat.le_of_ble_eq_true rfl) rfl rfl ?_
      intro w12 hblk hgrw
      have BRF := Aside0.mk hblk
      have HBF := Aside0.mk (HB.out.grown hgrw HB.out.size (by intro q hq; cases hq; exact G2.out))
      have BBF := Aside0.mk (blk_grown hHeld hgrw (fun e => N24.out (Option.some.inj e).symm))
      clear hblk hgrw hHeld
      refine hK.out _ _ (BBF.out) (fun hHeld => ?_)
      clear hK K
      refine pure_ (i := 5) (N := some 3) (v := ?_) (a' := ?_) #[true, true, true, true, true, true] rfl rfl (any_of HT_.out (by kernel_rfl)) (fun _ _ _ h => h) (Or.inl ⟨by rfl, ?_⟩) ?_ ?_
      rotate_left
      · intro w'
        go_simp
        with_reducible rfl
      rotate_left
      · simp only [Act.put, List.setIfInBounds_toArray, List.set_cons_zero, List.set_cons_succ, i64_w, i32_w]
        rfl
      refine done_ (done_of HT_.out (by kernel_rfl)) ?_
      try clear hHeld
      go_wp2_with fail
      refine bodyPost_ret (results_cell_slot rfl _ _ g2 81 #[.int .i64 b0, .int .i64 b1, .int .i64 b2, .int .i64 b3] (0, 0) _ _ rfl rfl BRF.out Try.underlying81 rfl (by kernel_rfl)) rfl ?_
      exact ⟨rfl, HBF.out⟩
    | succ gk =>
      have HP0 : Aside0 (0 ≤ x) := ⟨HXK.out.1⟩
      have HQ0 : Aside0 (x < 2) := ⟨by have := HXK.out; omega⟩
      have c4b0 : decide (x < 2) = true := decide_eq_true HQ0.out
      have hrd : ∀ q : Int × Int × Int × Int, bestStep k safe ps x (b0, b1, b2, b3) = some q → bestN k safe ps (x + 1).toNat = some q := fun q hq => by
        have := HP0.out
        rw [show (x + 1).toNat = x.toNat + 1 by omega]
        unfold bestN
        rw [HA.out, Option.bind_some, show ((x.toNat : Nat) : Int) = x by omega]
        exact hq
      obtain ⟨nx, hnx⟩ := bestN_some 2 (x.toNat + 1) NB.out (by have := HP0.out; have := HQ0.out; omega)
      have hst := hnx
      unfold bestN at hst
      rw [HA.out, Option.bind_some, show ((x.toNat : Nat) : Int) = x by have := HP0.out; omega] at hst
      have HRD := Aside0.mk hrd
      have HST := Aside0.mk hst
      have hst2 := hst
      unfold bestStep at hst2
      obtain ⟨p, H1, H2⟩ := Option.bind_eq_some_iff.mp hst2
      have N1 := Aside0.mk H1
      have N2 := Aside0.mk H2
      have hwf : (Lit.int .i64 x).wf = true := WalkArith.wf_i64 (by have := HP0.out; have := HQ0.out; omega)
      have HWX := Aside0.mk hwf
      have HDx := Aside0.mk (show IsDev wr g b A0 safe.length c0 A1 ps.length c1 from blk_below HD.out HB.out)
      have HLx := Aside0.mk (LMap_step HL.out (HB.out.block b (LMap_lt HL.out)))
      clear hnx hst hst2 H1 H2 hwf hrd
      go_wp2_with fail
      refine (impl_dpage.calls k g b n A0 c0 safe A1 c1 ps x p w0 _ HDx.out HLx.out hgb (below_step HBW.out HB.out) HG.out HR0.out HR1.out HC0.out HC1.out HWX.out N1.out).mono ?_
      rintro e w3 ⟨A5, c5, rfl, hl5, hC5, hb⟩
      obtain ⟨tag, rid, kind, size, body⟩ := p
      simp only at hl5 hC5 N2 ⊢
      have BB := Aside0.mk (blk_below BB.out hb)
      have BR := Aside0.mk (blk_below BR.out hb)
      have HB := Aside0.mk (below_step HB.out hb)
      have HL5 := Aside0.mk hl5
      have HC5 := Aside0.mk hC5
      clear hl5 hC5 hb HDx HLx
      generalize he : perr tag = ve
      cases tag with
      | succ t =>
        have hne : ∃ s : ByteArray, ve = .iface 108 (.string s) := by
          cases t with
          | zero => exact ⟨_, he.symm⟩
          | succ t => exact ⟨_, he.symm⟩
        obtain ⟨s, rfl⟩ := hne
        clear he
        have h := N2.out
        rw [if_neg (by omega)] at h
        have hneq := fun w : World => run_neq_iface_nil (P := Try.prog) w 104 (by kernel_rfl) 108 (.string s)
        go_wp2_with (first | ((with_reducible refine gate_dst (N := 6) rfl ?_); refine box_event ?hg (N := 6) ?hd (cs := #[.int .i64 0, .int .i64 0, .int .i64 0, .slice none 0 0]) (t := 102) ?hr ?_; (case hd => rfl); (case hg => rfl); (case hr => first | (go_simp; done) | (go_simp; rfl)); intro g6 hgr w4 hbox hbel; have BP0 := Aside0.mk hbox; have G6 := Aside0.mk hgr; have HBL := Aside0.mk hbel; have N26 : Aside0 (g2 ≠ g6) := ⟨by have := blk_lt BR.out; omega⟩; have N46 : Aside0 (g4 ≠ g6) := ⟨by have := blk_lt BB.out; omega⟩; have G6W : Aside0 (w.heap.size ≤ g6) := ⟨by rw [hgr]; exact HB.out.size⟩; have BR := Aside0.mk (blk_below BR.out hbel); have BB := Aside0.mk (blk_below BB.out hbel); have HB := Aside0.mk (below_step HB.out hbel); clear hbox hbel hgr) | ((with_reducible refine gate_ (.store 102 (.tmp 6) (.tmp 16)) rfl ?_); refine store_blk rfl rfl 102 (.tmp 6) (.tmp 16) rfl (off := 0) (u := .agg #[.int .i64 rid, .int .i64 kind, .int .i64 size, .slice A5 body.length c5]) #[.int .i64 rid, .int .i64 kind, .int .i64 size, .slice A5 body.length c5] rfl rfl BP0.out [.int .i64 rid, .int .i64 kind, .int .i64 size, .slice A5 body.length c5] rfl (by kernel_rfl) (Nat.le_of_ble_eq_true rfl) rfl rfl ?_; intro w5 hblk hgrw; have BP := Aside0.mk hblk; have HGW := Aside0.mk hgrw; have BR := Aside0.mk (blk_grown BR.out hgrw (fun e => N26.out (Option.some.inj e))); have BB := Aside0.mk (blk_grown BB.out hgrw (fun e => N46.out (Option.some.inj e))); have HB := Aside0.mk (HB.out.grown hgrw HB.out.size (by intro q hq; cases hq; exact G6W.out)); have hp0 : w5.cell? ⟨g6, 0, none⟩ = some (.int .i64 rid) := (blk_cell BP.out 0).trans rfl; have hp1 : w5.cell? ⟨g6, 1, none⟩ = some (.int .i64 kind) := (blk_cell BP.out 1).trans rfl; have hp2 : w5.cell? ⟨g6, 2, none⟩ = some (.int .i64 size) := (blk_cell BP.out 2).trans rfl; have hp3 : w5.cell? ⟨g6, 3, none⟩ = some (.slice A5 body.length c5) := (blk_cell BP.out 3).trans rfl; clear hblk hgrw))
        go_roundg gk
        case measure => omega
        case rel =>
          have hw1 : wrap64 (x + 1) = x + 1 := by have := HP0.out; have := HQ0.out; unfold wrap64; omega
          exact ⟨x + 1, b0, b1, b2, b3, by first | rfl | (rw [hw1]), ⟨by have := HXK.out; omega⟩, ⟨HRD.out _ (HST.out.trans h.symm)⟩, BB, BR, HB⟩
      | zero =>
        simp only [perr] at he
        subst he
        have h := N2.out
        rw [if_pos rfl] at h
        by_cases hk : kind = 1
        case neg =>
          rw [if_neg hk] at h
          have k1 : (kind != 1) = true := bne_iff_ne.mpr hk
          have k2 : (kind == 1) = false := beq_eq_false_iff_ne.mpr hk
          go_wp2_with (first | ((with_reducible refine gate_dst (N := 6) rfl ?_); refine box_event ?hg (N := 6) ?hd (cs := #[.int .i64 0, .int .i64 0, .int .i64 0, .slice none 0 0]) (t := 102) ?hr ?_; (case hd => rfl); (case hg => rfl); (case hr => first | (go_simp; done) | (go_simp; rfl)); intro g6 hgr w4 hbox hbel; have BP0 := Aside0.mk hbox; have G6 := Aside0.mk hgr; have HBL := Aside0.mk hbel; have N26 : Aside0 (g2 ≠ g6) := ⟨by have := blk_lt BR.out; omega⟩; have N46 : Aside0 (g4 ≠ g6) := ⟨by have := blk_lt BB.out; omega⟩; have G6W : Aside0 (w.heap.size ≤ g6) := ⟨by rw [hgr]; exact HB.out.size⟩; have BR := Aside0.mk (blk_below BR.out hbel); have BB := Aside0.mk (blk_below BB.out hbel); have HB := Aside0.mk (below_step HB.out hbel); clear hbox hbel hgr) | ((with_reducible refine gate_ (.store 102 (.tmp 6) (.tmp 16)) rfl ?_); refine store_blk rfl rfl 102 (.tmp 6) (.tmp 16) rfl (off := 0) (u := .agg #[.int .i64 rid, .int .i64 kind, .int .i64 size, .slice A5 body.length c5]) #[.int .i64 rid, .int .i64 kind, .int .i64 size, .slice A5 body.length c5] rfl rfl BP0.out [.int .i64 rid, .int .i64 kind, .int .i64 size, .slice A5 body.length c5] rfl (by kernel_rfl) (Nat.le_of_ble_eq_true rfl) rfl rfl ?_; intro w5 hblk hgrw; have BP := Aside0.mk hblk; have HGW := Aside0.mk hgrw; have BR := Aside0.mk (blk_grown BR.out hgrw (fun e => N26.out (Option.some.inj e))); have BB := Aside0.mk (blk_grown BB.out hgrw (fun e => N46.out (Option.some.inj e))); have HB := Aside0.mk (HB.out.grown hgrw HB.out.size (by intro q hq; cases hq; exact G6W.out)); have hp0 : w5.cell? ⟨g6, 0, none⟩ = some (.int .i64 rid) := (blk_cell BP.out 0).trans rfl; have hp1 : w5.cell? ⟨g6, 1, none⟩ = some (.int .i64 kind) := (blk_cell BP.out 1).trans rfl; have hp2 : w5.cell? ⟨g6, 2, none⟩ = some (.int .i64 size) := (blk_cell BP.out 2).trans rfl; have hp3 : w5.cell? ⟨g6, 3, none⟩ = some (.slice A5 body.length c5) := (blk_cell BP.out 3).trans rfl; clear hblk hgrw))
          go_roundg gk
          case measure => omega
          case rel =>
            have hw1 : wrap64 (x + 1) = x + 1 := by have := HP0.out; have := HQ0.out; unfold wrap64; omega
            exact ⟨x + 1, b0, b1, b2, b3, by first | rfl | (rw [hw1]), ⟨by have := HXK.out; omega⟩, ⟨HRD.out _ (HST.out.trans h.symm)⟩, BB, BR, HB⟩
        rw [if_pos hk] at h
        have k1 : (kind != 1) = false := bne_eq_false_iff_eq.mpr hk
        have k1b : (kind == 1) = true := beq_iff_eq.mpr hk
        clear hk
        by_cases h20 : body.length = 20
        case neg =>
          rw [if_neg h20] at h
          have k2 : ((body.length : Int) != 20) = true := bne_iff_ne.mpr (by omega)
          have k3 : ((body.length : Int) == 20) = false := beq_eq_false_iff_ne.mpr (by omega)
          go_wp2_with (first | ((with_reducible refine gate_dst (N := 6) rfl ?_); refine box_event ?hg (N := 6) ?hd (cs := #[.int .i64 0, .int .i64 0, .int .i64 0, .slice none 0 0]) (t := 102) ?hr ?_; (case hd => rfl); (case hg => rfl); (case hr => first | (go_simp; done) | (go_simp; rfl)); intro g6 hgr w4 hbox hbel; have BP0 := Aside0.mk hbox; have G6 := Aside0.mk hgr; have HBL := Aside0.mk hbel; have N26 : Aside0 (g2 ≠ g6) := ⟨by have := blk_lt BR.out; omega⟩; have N46 : Aside0 (g4 ≠ g6) := ⟨by have := blk_lt BB.out; omega⟩; have G6W : Aside0 (w.heap.size ≤ g6) := ⟨by rw [hgr]; exact HB.out.size⟩; have BR := Aside0.mk (blk_below BR.out hbel); have BB := Aside0.mk (blk_below BB.out hbel); have HB := Aside0.mk (below_step HB.out hbel); clear hbox hbel hgr) | ((with_reducible refine gate_ (.store 102 (.tmp 6) (.tmp 16)) rfl ?_); refine store_blk rfl rfl 102 (.tmp 6) (.tmp 16) rfl (off := 0) (u := .agg #[.int .i64 rid, .int .i64 kind, .int .i64 size, .slice A5 body.length c5]) #[.int .i64 rid, .int .i64 kind, .int .i64 size, .slice A5 body.length c5] rfl rfl BP0.out [.int .i64 rid, .int .i64 kind, .int .i64 size, .slice A5 body.length c5] rfl (by kernel_rfl) (Nat.le_of_ble_eq_true rfl) rfl rfl ?_; intro w5 hblk hgrw; have BP := Aside0.mk hblk; have HGW := Aside0.mk hgrw; have BR := Aside0.mk (blk_grown BR.out hgrw (fun e => N26.out (Option.some.inj e))); have BB := Aside0.mk (blk_grown BB.out hgrw (fun e => N46.out (Option.some.inj e))); have HB := Aside0.mk (HB.out.grown hgrw HB.out.size (by intro q hq; cases hq; exact G6W.out)); have hp0 : w5.cell? ⟨g6, 0, none⟩ = some (.int .i64 rid) := (blk_cell BP.out 0).trans rfl; have hp1 : w5.cell? ⟨g6, 1, none⟩ = some (.int .i64 kind) := (blk_cell BP.out 1).trans rfl; have hp2 : w5.cell? ⟨g6, 2, none⟩ = some (.int .i64 size) := (blk_cell BP.out 2).trans rfl; have hp3 : w5.cell? ⟨g6, 3, none⟩ = some (.slice A5 body.length c5) := (blk_cell BP.out 3).trans rfl; clear hblk hgrw))
          go_roundg gk
          case measure => omega
          case rel =>
            have hw1 : wrap64 (x + 1) = x + 1 := by have := HP0.out; have := HQ0.out; unfold wrap64; omega
            exact ⟨x + 1, b0, b1, b2, b3, by first | rfl | (rw [hw1]), ⟨by have := HXK.out; omega⟩, ⟨HRD.out _ (HST.out.trans h.symm)⟩, BB, BR, HB⟩
        rw [if_pos h20] at h
        have k2 : ((body.length : Int) != 20) = false := bne_eq_false_iff_eq.mpr (by omega)
        have k3 : ((body.length : Int) == 20) = true := beq_iff_eq.mpr (by omega)
        obtain ⟨n0, H3, h⟩ := Option.bind_eq_some_iff.mp h
        obtain ⟨n1, H4, h⟩ := Option.bind_eq_some_iff.mp h
        obtain ⟨n2, H5, h⟩ := Option.bind_eq_some_iff.mp h
        obtain ⟨n3, H6, h⟩ := Option.bind_eq_some_iff.mp h
        have M0 := Aside0.mk H3
        have M1 := Aside0.mk H4
        have M2 := Aside0.mk H5
        have M3 := Aside0.mk H6
        have HH := Aside0.mk h
        have H20 := Aside0.mk h20
        clear H3 H4 H5 H6 h h20
        have hF5 := F_of_C HC5.out
        have hcuts : ∃ B1 B2 B3, (∀ W : World, (Instr.slice 22 (.slice A5 body.length c5) none (some (.int .i64 8)) none).run Try.prog W = .ok (.slice A5 8 c5) W) ∧ (∀ W : World, (Instr.slice 22 (.slice A5 body.length c5) (some (.int .i64 8)) (some (.int .i64 12)) none).run Try.prog W = .ok (.slice B1 4 (c5 - 8)) W) ∧
            (∀ W : World, (Instr.slice 22 (.slice A5 body.length c5) (some (.int .i64 12)) (some (.int .i64 16)) none).run Try.prog W = .ok (.slice B2 4 (c5 - 12)) W) ∧ (∀ W : World, (Instr.slice 22 (.slice A5 body.length c5) (some (.int .i64 16)) (some (.int .i64 20)) none).run Try.prog W = .ok (.slice B3 4 (c5 - 16)) W) ∧
            Kd.F (Kd.int .u8) w3 (fun _ => True) A5 (body.take 8).length (body.take 8) ∧ Kd.F (Kd.int .u8) w3 (fun _ => True) B1 ((body.take 12).drop 8).length ((body.take 12).drop 8) ∧ Kd.F (Kd.int .u8) w3 (fun _ => True) B2 ((body.take 16).drop 12).length ((body.take 16).drop 12) ∧ Kd.F (Kd.int .u8) w3 (fun _ => True) B3 ((body.take 20).drop 16).length ((body.take 20).drop 16) := by
          have hn := H20.out
          refine ⟨_, _, _, fun W => ?_, cut_mid 22 5 .i64 .i64 Try.underlying22 HI.out 1 HZ.out A5 body.length c5 8 12 (by decide) (by decide) (by omega) HL5.out, cut_mid 22 5 .i64 .i64 Try.underlying22 HI.out 1 HZ.out A5 body.length c5 12 16 (by decide) (by decide) (by omega) HL5.out,
            cut_mid 22 5 .i64 .i64 Try.underlying22 HI.out 1 HZ.out A5 body.length c5 16 20 (by decide) (by decide) (by omega) HL5.out, Kd.F_take hF5 (by omega), Kd.F_mid hF5 (by decide) (by omega) HL5.out, Kd.F_mid hF5 (by decide) (by omega) HL5.out, Kd.F_mid hF5 (by decide) (by omega) HL5.out⟩
          have h1 := (print_take_int (P := Try.prog) (k := .u8) 22 5 Try.underlying22 HI.out HZ.out A5 c5 body 8 (by decide) (by omega) HL5.out).1 W
          rw [show (body.take (8 : Int).toNat).length = 8 by rw [List.length_take]; omega] at h1
          exact h1
        obtain ⟨B1, B2, B3, hcut1, hcut2, hcut3, hcut4, hq0, hq1, hq2, hq3⟩ := hcuts
        have HF0 := Aside0.mk (Kd.F_mono (Kd.F_bound hq0) (ok' := fun q => q < w3.heap.size) (fun q hq => hq.2))
        have HF1 := Aside0.mk (Kd.F_mono (Kd.F_bound hq1) (ok' := fun q => q < w3.heap.size) (fun q hq => hq.2))
        have HF2 := Aside0.mk (Kd.F_mono (Kd.F_bound hq2) (ok' := fun q => q < w3.heap.size) (fun q hq => hq.2))
        have HF3 := Aside0.mk (Kd.F_mono (Kd.F_bound hq3) (ok' := fun q => q < w3.heap.size) (fun q hq => hq.2))
        have HL0 : Aside0 ((body.take 8).length = 8) := ⟨by rw [List.length_take]; have := H20.out; omega⟩
        have HL1 : Aside0 (((body.take 12).drop 8).length = 4) := ⟨by rw [List.length_drop, List.length_take]; have := H20.out; omega⟩
        have HL2 : Aside0 (((body.take 16).drop 12).length = 4) := ⟨by rw [List.length_drop, List.length_take]; have := H20.out; omega⟩
        have HL3 : Aside0 (((body.take 20).drop 16).length = 4) := ⟨by rw [List.length_drop, List.length_take]; have := H20.out; omega⟩
        clear hF5 hq0 hq1 hq2 hq3
        go_wp2_with (first | ((with_reducible refine gate_dst (N := 6) rfl ?_); refine box_event ?hg (N := 6) ?hd (cs := #[.int .i64 0, .int .i64 0, .int .i64 0, .slice none 0 0]) (t := 102) ?hr ?_; (case hd => rfl); (case hg => rfl); (case hr => first | (go_simp; done) | (go_simp; rfl)); intro g6 hgr w4 hbox hbel; have BP0 := Aside0.mk hbox; have G6 := Aside0.mk hgr; have HBL := Aside0.mk hbel; have N26 : Aside0 (g2 ≠ g6) := ⟨by have := blk_lt BR.out; omega⟩; have N46 : Aside0 (g4 ≠ g6) := ⟨by have := blk_lt BB.out; omega⟩; have G6W : Aside0 (w.heap.size ≤ g6) := ⟨by rw [hgr]; exact HB.out.size⟩; have BR := Aside0.mk (blk_below BR.out hbel); have BB := Aside0.mk (blk_below BB.out hbel); have HB := Aside0.mk (below_step HB.out hbel); clear hbox hbel hgr) | ((with_reducible refine gate_ (.store 102 (.tmp 6) (.tmp 16)) rfl ?_); refine store_blk rfl rfl 102 (.tmp 6) (.tmp 16) rfl (off := 0) (u := .agg #[.int .i64 rid, .int .i64 kind, .int .i64 size, .slice A5 body.length c5]) #[.int .i64 rid, .int .i64 kind, .int .i64 size, .slice A5 body.length c5] rfl rfl BP0.out [.int .i64 rid, .int .i64 kind, .int .i64 size, .slice A5 body.length c5] rfl (by kernel_rfl) (Nat.le_of_ble_eq_true rfl) rfl rfl ?_; intro w5 hblk hgrw; have BP := Aside0.mk hblk; have HGW := Aside0.mk hgrw; have BR := Aside0.mk (blk_grown BR.out hgrw (fun e => N26.out (Option.some.inj e))); have BB := Aside0.mk (blk_grown BB.out hgrw (fun e => N46.out (Option.some.inj e))); have HB := Aside0.mk (HB.out.grown hgrw HB.out.size (by intro q hq; cases hq; exact G6W.out)); have hp0 : w5.cell? ⟨g6, 0, none⟩ = some (.int .i64 rid) := (blk_cell BP.out 0).trans rfl; have hp1 : w5.cell? ⟨g6, 1, none⟩ = some (.int .i64 kind) := (blk_cell BP.out 1).trans rfl; have hp2 : w5.cell? ⟨g6, 2, none⟩ = some (.int .i64 size) := (blk_cell BP.out 2).trans rfl; have hp3 : w5.cell? ⟨g6, 3, none⟩ = some (.slice A5 body.length c5) := (blk_cell BP.out 3).trans rfl; clear hblk hgrw))
        have HF0 := Aside0.mk (Kd.F_grown (Kd.F_below HF0.out HBL.out) HGW.out (fun q hq e => by have := Option.some.inj e; have := G6.out; omega))
        have HF1 := Aside0.mk (Kd.F_grown (Kd.F_below HF1.out HBL.out) HGW.out (fun q hq e => by have := Option.some.inj e; have := G6.out; omega))
        have HF2 := Aside0.mk (Kd.F_grown (Kd.F_below HF2.out HBL.out) HGW.out (fun q hq e => by have := Option.some.inj e; have := G6.out; omega))
        have HF3 := Aside0.mk (Kd.F_grown (Kd.F_below HF3.out HBL.out) HGW.out (fun q hq e => by have := Option.some.inj e; have := G6.out; omega))
        refine start_ (n := 19) (S := fun w' => w'.heap[g6]? = some (.cells #[.int .i64 rid, .int .i64 kind, .int .i64 size, .slice A5 body.length c5] 102 (0, 0)) ∧ (w'.heap[g4]? = some (.cells #[.int .i64 b0, .int .i64 b1, .int .i64 b2, .int .i64 b3] 81 (0, 0)) ∧ w'.heap[g2]? = some (.cells #[.int .i64 0, .int .i64 0, .int .i64 0, .int .i64 0] 81 (0, 0)) ∧ Below w.heap.size w w') ∧ Below w5.heap.size w5 w') (ds := [18]) #[false, false, false, false, false, false, false, false, false, false, false, false, false, false, false, false, false, false, false] (by kernel_rfl) rfl rfl (⟨blk_drew BP.out, ⟨blk_drew BB.out, blk_drew BR.out, below_drew1 HB.out⟩, below_drew1 (Below.refl _ _)⟩) (fun hHeld => ?_); refine with_tabW impl_bestSuper.tab7 impl_bestSuper.bits7 (fun HT_ HW_ => ?_)
        clear hp0 hp1 hp2 hp3
        refine pure_ (i := 0) (N := some 32) (v := ?_) (a' := ?_) #[true, false, false, false, false, false, false, false, false, false, false, false, false, false, false, false, false, false, false] rfl rfl (any_of HT_.out (by kernel_rfl)) (fun _ _ _ h => h) (Or.inl ⟨by rfl, ?_⟩) ?_ ?_
        rotate_left
        · intro w'
          go_simp
          with_reducible rfl
        rotate_left
        · simp only [Act.put, List.setIfInBounds_toArray, List.set_cons_zero, List.set_cons_succ, i64_w, i32_w]
          rfl
        refine take_ (i := 1) (N := some 33) (v := ?_) (a' := ?_) #[true, true, false, false, false, false, false, false, false, false, false, false, false, false, false, false, false, false, false] rfl rfl (take_ofW HT_.out HW_.out (by kernel_rfl)) (fun _ _ _ h => h) (Or.inl ⟨by rfl, ?_⟩) hHeld ?_ ?_
        rotate_left
        · intro w' s0
          have hp0 : w'.cell? ⟨g6, 0, none⟩ = some (.int .i64 rid) := (blk_cell s0.1 0).trans rfl
          have hp1 : w'.cell? ⟨g6, 1, none⟩ = some (.int .i64 kind) := (blk_cell s0.1 1).trans rfl
          have hp2 : w'.cell? ⟨g6, 2, none⟩ = some (.int .i64 size) := (blk_cell s0.1 2).trans rfl
          have hp3 : w'.cell? ⟨g6, 3, none⟩ = some (.slice A5 body.length c5) := (blk_cell s0.1 3).trans rfl
          clear s0
          go_simp
          with_reducible rfl
        rotate_left
        · simp only [Act.put, List.setIfInBounds_toArray, List.set_cons_zero, List.set_cons_succ, i64_w, i32_w]
          rfl
        refine pure_ (i := 2) (N := some 34) (v := ?_) (a' := ?_) #[true, true, true, false, false, false, false, false, false, false, false, false, false, false, false, false, false, false, false] rfl rfl (any_of HT_.out (by kernel_rfl)) (fun _ _ _ h => h) (Or.inl ⟨by rfl, ?_⟩) ?_ ?_
        rotate_left
        · intro w'
          go_simp
          with_reducible rfl
        rotate_left
        · simp only [Act.put, List.setIfInBounds_toArray, List.set_cons_zero, List.set_cons_succ, i64_w, i32_w]
          rfl
        refine pure_ (i := 4) (N := some 36) (v := ?_) (a' := ?_) #[true, true, true, false, true, false, false, false, false, false, false, false, false, false, false, false, false, false, false] rfl rfl (any_of HT_.out (by kernel_rfl)) (fun _ _ _ h => h) (Or.inl ⟨by rfl, ?_⟩) ?_ ?_
        rotate_left
        · intro w'
          go_simp
          with_reducible rfl
        rotate_left
        · simp only [Act.put, List.setIfInBounds_toArray, List.set_cons_zero, List.set_cons_succ, i64_w, i32_w]
          rfl
        refine take_ (i := 5) (N := some 37) (v := ?_) (a' := ?_) #[true, true, true, false, true, true, false, false, false, false, false, false, false, false, false, false, false, false, false] rfl rfl (take_ofW HT_.out HW_.out (by kernel_rfl)) (fun _ _ _ h => h) (Or.inl ⟨by rfl, ?_⟩) hHeld ?_ ?_
        rotate_left
        · intro w' s0
          have hp0 : w'.cell? ⟨g6, 0, none⟩ = some (.int .i64 rid) := (blk_cell s0.1 0).trans rfl
          have hp1 : w'.cell? ⟨g6, 1, none⟩ = some (.int .i64 kind) := (blk_cell s0.1 1).trans rfl
          have hp2 : w'.cell? ⟨g6, 2, none⟩ = some (.int .i64 size) := (blk_cell s0.1 2).trans rfl
          have hp3 : w'.cell? ⟨g6, 3, none⟩ = some (.slice A5 body.length c5) := (blk_cell s0.1 3).trans rfl
          clear s0
          go_simp
          with_reducible rfl
        rotate_left
        · simp only [Act.put, List.setIfInBounds_toArray, List.set_cons_zero, List.set_cons_succ, i64_w, i32_w]
          rfl
        refine pure_ (i := 6) (N := some 38) (v := ?_) (a' := ?_) #[true, true, true, false, true, true, true, false, false, false, false, false, false, false, false, false, false, false, false] rfl rfl (any_of HT_.out (by kernel_rfl)) (fun _ _ _ h => h) (Or.inl ⟨by rfl, ?_⟩) ?_ ?_
        rotate_left
        · intro w'
          go_simp
          with_reducible rfl
        rotate_left
        · simp only [Act.put, List.setIfInBounds_toArray, List.set_cons_zero, List.set_cons_succ, i64_w, i32_w]
          rfl
        refine pure_ (i := 8) (N := some 40) (v := ?_) (a' := ?_) #[true, true, true, false, true, true, true, false, true, false, false, false, false, false, false, false, false, false, false] rfl rfl (any_of HT_.out (by kernel_rfl)) (fun _ _ _ h => h) (Or.inl ⟨by rfl, ?_⟩) ?_ ?_
        rotate_left
        · intro w'
          go_simp
          with_reducible rfl
        rotate_left
        · simp only [Act.put, List.setIfInBounds_toArray, List.set_cons_zero, List.set_cons_succ, i64_w, i32_w]
          rfl
        refine take_ (i := 9) (N := some 41) (v := ?_) (a' := ?_) #[true, true, true, false, true, true, true, false, true, true, false, false, false, false, false, false, false, false, false] rfl rfl (take_ofW HT_.out HW_.out (by kernel_rfl)) (fun _ _ _ h => h) (Or.inl ⟨by rfl, ?_⟩) hHeld ?_ ?_
        rotate_left
        · intro w' s0
          have hp0 : w'.cell? ⟨g6, 0, none⟩ = some (.int .i64 rid) := (blk_cell s0.1 0).trans rfl
          have hp1 : w'.cell? ⟨g6, 1, none⟩ = some (.int .i64 kind) := (blk_cell s0.1 1).trans rfl
          have hp2 : w'.cell? ⟨g6, 2, none⟩ = some (.int .i64 size) := (blk_cell s0.1 2).trans rfl
          have hp3 : w'.cell? ⟨g6, 3, none⟩ = some (.slice A5 body.length c5) := (blk_cell s0.1 3).trans rfl
          clear s0
          go_simp
          with_reducible rfl
        rotate_left
        · simp only [Act.put, List.setIfInBounds_toArray, List.set_cons_zero, List.set_cons_succ, i64_w, i32_w]
          rfl
        refine pure_ (i := 10) (N := some 42) (v := ?_) (a' := ?_) #[true, true, true, false, true, true, true, false, true, true, true, false, false, false, false, false, false, false, false] rfl rfl (any_of HT_.out (by kernel_rfl)) (fun _ _ _ h => h) (Or.inl ⟨by rfl, ?_⟩) ?_ ?_
        rotate_left
        · intro w'
          go_simp
          with_reducible rfl
        rotate_left
        · simp only [Act.put, List.setIfInBounds_toArray, List.set_cons_zero, List.set_cons_succ, i64_w, i32_w]
          rfl
        refine pure_ (i := 12) (N := some 44) (v := ?_) (a' := ?_) #[true, true, true, false, true, true, true, false, true, true, true, false, true, false, false, false, false, false, false] rfl rfl (any_of HT_.out (by kernel_rfl)) (fun _ _ _ h => h) (Or.inl ⟨by rfl, ?_⟩) ?_ ?_
        rotate_left
        · intro w'
          go_simp
          with_reducible rfl
        rotate_left
        · simp only [Act.put, List.setIfInBounds_toArray, List.set_cons_zero, List.set_cons_succ, i64_w, i32_w]
          rfl
        refine take_ (i := 13) (N := some 45) (v := ?_) (a' := ?_) #[true, true, true, false, true, true, true, false, true, true, true, false, true, true, false, false, false, false, false] rfl rfl (take_ofW HT_.out HW_.out (by kernel_rfl)) (fun _ _ _ h => h) (Or.inl ⟨by rfl, ?_⟩) hHeld ?_ ?_
        rotate_left
        · intro w' s0
          have hp0 : w'.cell? ⟨g6, 0, none⟩ = some (.int .i64 rid) := (blk_cell s0.1 0).trans rfl
          have hp1 : w'.cell? ⟨g6, 1, none⟩ = some (.int .i64 kind) := (blk_cell s0.1 1).trans rfl
          have hp2 : w'.cell? ⟨g6, 2, none⟩ = some (.int .i64 size) := (blk_cell s0.1 2).trans rfl
          have hp3 : w'.cell? ⟨g6, 3, none⟩ = some (.slice A5 body.length c5) := (blk_cell s0.1 3).trans rfl
          clear s0
          go_simp
          with_reducible rfl
        rotate_left
        · simp only [Act.put, List.setIfInBounds_toArray, List.set_cons_zero, List.set_cons_succ, i64_w, i32_w]
          rfl
        refine pure_ (i := 14) (N := some 46) (v := ?_) (a' := ?_) #[true, true, true, false, true, true, true, false, true, true, true, false, true, true, true, false, false, false, false] rfl rfl (any_of HT_.out (by kernel_rfl)) (fun _ _ _ h => h) (Or.inl ⟨by rfl, ?_⟩) ?_ ?_
        rotate_left
        · intro w'
          go_simp
          with_reducible rfl
        rotate_left
        · simp only [Act.put, List.setIfInBounds_toArray, List.set_cons_zero, List.set_cons_succ, i64_w, i32_w]
          rfl
        refine join_ 1 #[true, true, true, true, true, true, true, true, true, true, true, true, true, true, true, true, true, true, false] (fun g8 : Nat => [(35, .int .i64 n0), (39, .int .i64 n1), (43, .int .i64 n2), (47, .int .i64 n3), (48, .agg #[.int .i64 n0, .int .i64 n1, .int .i64 n2, .int .i64 n3]), (8, .pointer (some ⟨g8, 0, none⟩))]) (fun g8 w' => w'.heap[g8]? = some (.cells #[.int .i64 0, .int .i64 0, .int .i64 0, .int .i64 0] 81 (0, 0)) ∧ (w'.heap[g4]? = some (.cells #[.int .i64 b0, .int .i64 b1, .int .i64 b2, .int .i64 b3] 81 (0, 0)) ∧ w'.heap[g2]? = some (.cells #[.int .i64 0, .int .i64 0, .int .i64 0, .int .i64 0] 81 (0, 0)) ∧ Below w.heap.size w w') ∧ w.heap.size ≤ g8 ∧ g2 ≠ g8 ∧ g4 ≠ g8) ?_ ?_
        rotate_left
        · intro hK0
          refine two_ (i := 3) (j := 17) (Ni := some 35) (Nj := some 8) #[true, true, true, true, true, true, true, false, true, true, true, false, true, true, true, false, false, false, false] #[true, true, true, false, true, true, true, false, true, true, true, false, true, true, true, false, false, true, false] rfl rfl rfl rfl (two_of HT_.out (by kernel_rfl)) (by decide) (by decide) (fun K hK => ?_) (fun K hK => ?_)
          · refine goes_ Try.func130 (by kernel_rfl) rfl #[.slice A5 8 c5] (by rfl) rfl rfl (by first | rfl | (simp only [List.map_toArray, List.map_cons, List.map_nil]; first | done | rfl)) ?_
            have hcr := impl_numberAt.calls k A5 c5 (body.take 8) n0 _ (Kd.C_below (Kd.F_now HF0.out) hHeld.2.2) (by have := HL0.out; have := HL5.out; have := H20.out; omega) M0.out
            rw [HL0.out] at hcr
            refine hcr.mono ?_
            clear hcr
            rintro e w9 ⟨rfl, hd9⟩
            refine ⟨_, rfl, ?_⟩
            have hb9 := hd9.below
            have S9 := Aside0.mk (show (w9.heap[g6]? = some (.cells #[.int .i64 rid, .int .i64 kind, .int .i64 size, .slice A5 body.length c5] 102 (0, 0)) ∧ (w9.heap[g4]? = some (.cells #[.int .i64 b0, .int .i64 b1, .int .i64 b2, .int .i64 b3] 81 (0, 0)) ∧ w9.heap[g2]? = some (.cells #[.int .i64 0, .int .i64 0, .int .i64 0, .int .i64 0] 81 (0, 0)) ∧ Below w.heap.size w w9) ∧ Below w5.heap.size w5 w9) from ⟨blk_below hHeld.1 hb9, ⟨blk_below hHeld.2.1.1 hb9, blk_below hHeld.2.1.2.1 hb9, below_step hHeld.2.1.2.2 hb9⟩, below_step hHeld.2.2 hb9⟩)
            clear hd9 hb9 hHeld
            refine hK.out _ _ (S9.out) (fun hHeld => ?_)
            clear hK K
            refine norm_ (a' := ?_) ?_ ?_
            rotate_left
            · show Act.put _ (some 35) _ = _
              simp only [Act.put, List.setIfInBounds_toArray, List.set_cons_zero, List.set_cons_succ, i64_w, i32_w]
              rfl
            refine two_ (i := 7) (j := 17) (Ni := some 39) (Nj := some 8) #[true, true, true, true, true, true, true, true, true, true, true, false, true, true, true, false, false, false, false] #[true, true, true, true, true, true, true, false, true, true, true, false, true, true, true, false, false, true, false] rfl rfl rfl rfl (two_of HT_.out (by kernel_rfl)) (by decide) (by decide) (fun K hK => ?_) (fun K hK => ?_)
            · refine goes_ Try.func130 (by kernel_rfl) rfl #[.slice B1 4 (c5 - 8)] (by rfl) rfl rfl (by first | rfl | (simp only [List.map_toArray, List.map_cons, List.map_nil]; first | done | rfl)) ?_
              have hcr := impl_numberAt.calls k B1 (c5 - 8) ((body.take 12).drop 8) n1 _ (Kd.C_below (Kd.F_now HF1.out) hHeld.2.2) (by have := HL1.out; have := HL5.out; have := H20.out; omega) M1.out
              rw [HL1.out] at hcr
              refine hcr.mono ?_
              clear hcr
              rintro e w9 ⟨rfl, hd9⟩
              refine ⟨_, rfl, ?_⟩
              have hb9 := hd9.below
              have S9 := Aside0.mk (show (w9.heap[g6]? = some (.cells #[.int .i64 rid, .int .i64 kind, .int .i64 size, .slice A5 body.length c5] 102 (0, 0)) ∧ (w9.heap[g4]? = some (.cells #[.int .i64 b0, .int .i64 b1, .int .i64 b2, .int .i64 b3] 81 (0, 0)) ∧ w9.heap[g2]? = some (.cells #[.int .i64 0, .int .i64 0, .int .i64 0, .int .i64 0] 81 (0, 0)) ∧ Below w.heap.size w w9) ∧ Below w5.heap.size w5 w9) from ⟨blk_below hHeld.1 hb9, ⟨blk_below hHeld.2.1.1 hb9, blk_below hHeld.2.1.2.1 hb9, below_step hHeld.2.1.2.2 hb9⟩, below_step hHeld.2.2 hb9⟩)
              clear hd9 hb9 hHeld
              refine hK.out _ _ (S9.out) (fun hHeld => ?_)
              clear hK K
              refine norm_ (a' := ?_) ?_ ?_
              rotate_left
              · show Act.put _ (some 39) _ = _
                simp only [Act.put, List.setIfInBounds_toArray, List.set_cons_zero, List.set_cons_succ, i64_w, i32_w]
                rfl
              refine two_ (i := 11) (j := 17) (Ni := some 43) (Nj := some 8) #[true, true, true, true, true, true, true, true, true, true, true, true, true, true, true, false, false, false, false] #[true, true, true, true, true, true, true, true, true, true, true, false, true, true, true, false, false, true, false] rfl rfl rfl rfl (two_of HT_.out (by kernel_rfl)) (by decide) (by decide) (fun K hK => ?_) (fun K hK => ?_)
              · refine goes_ Try.func130 (by kernel_rfl) rfl #[.slice B2 4 (c5 - 12)] (by rfl) rfl rfl (by first | rfl | (simp only [List.map_toArray, List.map_cons, List.map_nil]; first | done | rfl)) ?_
                have hcr := impl_numberAt.calls k B2 (c5 - 12) ((body.take 16).drop 12) n2 _ (Kd.C_below (Kd.F_now HF2.out) hHeld.2.2) (by have := HL2.out; have := HL5.out; have := H20.out; omega) M2.out
                rw [HL2.out] at hcr
                refine hcr.mono ?_
                clear hcr
                rintro e w9 ⟨rfl, hd9⟩
                refine ⟨_, rfl, ?_⟩
                have hb9 := hd9.below
                have S9 := Aside0.mk (show (w9.heap[g6]? = some (.cells #[.int .i64 rid, .int .i64 kind, .int .i64 size, .slice A5 body.length c5] 102 (0, 0)) ∧ (w9.heap[g4]? = some (.cells #[.int .i64 b0, .int .i64 b1, .int .i64 b2, .int .i64 b3] 81 (0, 0)) ∧ w9.heap[g2]? = some (.cells #[.int .i64 0, .int .i64 0, .int .i64 0, .int .i64 0] 81 (0, 0)) ∧ Below w.heap.size w w9) ∧ Below w5.heap.size w5 w9) from ⟨blk_below hHeld.1 hb9, ⟨blk_below hHeld.2.1.1 hb9, blk_below hHeld.2.1.2.1 hb9, below_step hHeld.2.1.2.2 hb9⟩, below_step hHeld.2.2 hb9⟩)
                clear hd9 hb9 hHeld
                refine hK.out _ _ (S9.out) (fun hHeld => ?_)
                clear hK K
                refine norm_ (a' := ?_) ?_ ?_
                rotate_left
                · show Act.put _ (some 43) _ = _
                  simp only [Act.put, List.setIfInBounds_toArray, List.set_cons_zero, List.set_cons_succ, i64_w, i32_w]
                  rfl
                refine two_ (i := 15) (j := 17) (Ni := some 47) (Nj := some 8) #[true, true, true, true, true, true, true, true, true, true, true, true, true, true, true, true, false, false, false] #[true, true, true, true, true, true, true, true, true, true, true, true, true, true, true, false, false, true, false] rfl rfl rfl rfl (two_of HT_.out (by kernel_rfl)) (by decide) (by decide) (fun K hK => ?_) (fun K hK => ?_)
                · refine goes_ Try.func130 (by kernel_rfl) rfl #[.slice B3 4 (c5 - 16)] (by rfl) rfl rfl (by first | rfl | (simp only [List.map_toArray, List.map_cons, List.map_nil]; first | done | rfl)) ?_
                  have hcr := impl_numberAt.calls k B3 (c5 - 16) ((body.take 20).drop 16) n3 _ (Kd.C_below (Kd.F_now HF3.out) hHeld.2.2) (by have := HL3.out; have := HL5.out; have := H20.out; omega) M3.out
                  rw [HL3.out] at hcr
                  refine hcr.mono ?_
                  clear hcr
                  rintro e w9 ⟨rfl, hd9⟩
                  refine ⟨_, rfl, ?_⟩
                  have hb9 := hd9.below
                  have S9 := Aside0.mk (show (w9.heap[g6]? = some (.cells #[.int .i64 rid, .int .i64 kind, .int .i64 size, .slice A5 body.length c5] 102 (0, 0)) ∧ (w9.heap[g4]? = some (.cells #[.int .i64 b0, .int .i64 b1, .int .i64 b2, .int .i64 b3] 81 (0, 0)) ∧ w9.heap[g2]? = some (.cells #[.int .i64 0, .int .i64 0, .int .i64 0, .int .i64 0] 81 (0, 0)) ∧ Below w.heap.size w w9) ∧ Below w5.heap.size w5 w9) from ⟨blk_below hHeld.1 hb9, ⟨blk_below hHeld.2.1.1 hb9, blk_below hHeld.2.1.2.1 hb9, below_step hHeld.2.1.2.2 hb9⟩, below_step hHeld.2.2 hb9⟩)
                  clear hd9 hb9 hHeld
                  refine hK.out _ _ (S9.out) (fun hHeld => ?_)
                  clear hK K
                  refine norm_ (a' := ?_) ?_ ?_
                  rotate_left
                  · show Act.put _ (some 47) _ = _
                    simp only [Act.put, List.setIfInBounds_toArray, List.set_cons_zero, List.set_cons_succ, i64_w, i32_w]
                    rfl
                  refine pure_ (i := 16) (N := some 48) (v := ?_) (a' := ?_) #[true, true, true, true, true, true, true, true, true, true, true, true, true, true, true, true, true, false, false] rfl rfl (any_of HT_.out (by kernel_rfl)) (fun _ _ _ h => h) (Or.inl ⟨by rfl, ?_⟩) ?_ ?_
                  rotate_left
                  · intro w'
                    go_simp
                    with_reducible rfl
                  rotate_left
                  · simp only [Act.put, List.setIfInBounds_toArray, List.set_cons_zero, List.set_cons_succ, i64_w, i32_w]
                    rfl
                  refine one_ (i := 17) (N := some 8) #[true, true, true, true, true, true, true, true, true, true, true, true, true, true, true, true, true, true, false] rfl rfl (one_of HT_.out (by kernel_rfl)) (by decide) (fun K hK => ?_)
                  refine box_step (by rfl) (N := 8) rfl (cs := #[.int .i64 0, .int .i64 0, .int .i64 0, .int .i64 0]) (t := 81) ?hr ?_
                  case hr => first | (go_simp; done) | (go_simp; rfl)
                  intro g8 hgr w10 hbox hb9
                  have S9 := Aside0.mk (show (w10.heap[g6]? = some (.cells #[.int .i64 rid, .int .i64 kind, .int .i64 size, .slice A5 body.length c5] 102 (0, 0)) ∧ (w10.heap[g4]? = some (.cells #[.int .i64 b0, .int .i64 b1, .int .i64 b2, .int .i64 b3] 81 (0, 0)) ∧ w10.heap[g2]? = some (.cells #[.int .i64 0, .int .i64 0, .int .i64 0, .int .i64 0] 81 (0, 0)) ∧ Below w.heap.size w w10) ∧ Below w5.heap.size w5 w10) from ⟨blk_below hHeld.1 hb9, ⟨blk_below hHeld.2.1.1 hb9, blk_below hHeld.2.1.2.1 hb9, below_step hHeld.2.1.2.2 hb9⟩, below_step hHeld.2.2 hb9⟩)
                  have B8 := Aside0.mk hbox
                  have G8 : Aside0 (w.heap.size ≤ g8 ∧ g2 ≠ g8 ∧ g4 ≠ g8) := ⟨by rw [hgr]; exact hHeld.2.1.2.2.size, by have := blk_lt hHeld.2.1.2.1; omega, by have := blk_lt hHeld.2.1.1; omega⟩
                  clear hbox hb9 hgr hHeld
                  refine hK.out _ _ S9.out (fun hHeld => ?_)
                  clear hK K
                  exact hK0 g8 _ ⟨B8.out, hHeld.2.1, G8.out.1, G8.out.2.1, G8.out.2.2⟩
                · refine box_step (by rfl) (N := 8) rfl (cs := #[.int .i64 0, .int .i64 0, .int .i64 0, .int .i64 0]) (t := 81) ?hr ?_
                  case hr => first | (go_simp; done) | (go_simp; rfl)
                  intro g8 hgr w10 hbox hb9
                  have S9 := Aside0.mk (show (w10.heap[g6]? = some (.cells #[.int .i64 rid, .int .i64 kind, .int .i64 size, .slice A5 body.length c5] 102 (0, 0)) ∧ (w10.heap[g4]? = some (.cells #[.int .i64 b0, .int .i64 b1, .int .i64 b2, .int .i64 b3] 81 (0, 0)) ∧ w10.heap[g2]? = some (.cells #[.int .i64 0, .int .i64 0, .int .i64 0, .int .i64 0] 81 (0, 0)) ∧ Below w.heap.size w w10) ∧ Below w5.heap.size w5 w10) from ⟨blk_below hHeld.1 hb9, ⟨blk_below hHeld.2.1.1 hb9, blk_below hHeld.2.1.2.1 hb9, below_step hHeld.2.1.2.2 hb9⟩, below_step hHeld.2.2 hb9⟩)
                  have B8 := Aside0.mk hbox
                  have G8 : Aside0 (w.heap.size ≤ g8 ∧ g2 ≠ g8 ∧ g4 ≠ g8) := ⟨by rw [hgr]; exact hHeld.2.1.2.2.size, by have := blk_lt hHeld.2.1.2.1; omega, by have := blk_lt hHeld.2.1.1; omega⟩
                  clear hbox hb9 hgr hHeld
                  refine hK.out _ _ (S9.out) (fun hHeld => ?_)
                  clear hK K
                  refine norm_ (a' := ?_) ?_ ?_
                  rotate_left
                  · show Act.put _ (some 8) _ = _
                    simp only [Act.put, List.setIfInBounds_toArray, List.set_cons_zero, List.set_cons_succ, i64_w, i32_w]
                    rfl
                  refine one_ (i := 15) (N := some 47) #[true, true, true, true, true, true, true, true, true, true, true, true, true, true, true, true, false, true, false] rfl rfl (one_of HT_.out (by kernel_rfl)) (by decide) (fun K hK => ?_)
                  refine goes_ Try.func130 (by kernel_rfl) rfl #[.slice B3 4 (c5 - 16)] (by rfl) rfl rfl (by first | rfl | (simp only [List.map_toArray, List.map_cons, List.map_nil]; first | done | rfl)) ?_
                  have hcr := impl_numberAt.calls k B3 (c5 - 16) ((body.take 20).drop 16) n3 _ (Kd.C_below (Kd.F_now HF3.out) hHeld.2.2) (by have := HL3.out; have := HL5.out; have := H20.out; omega) M3.out
                  rw [HL3.out] at hcr
                  refine hcr.mono ?_
                  clear hcr
                  rintro e w9 ⟨rfl, hd9⟩
                  refine ⟨_, rfl, ?_⟩
                  have hb9 := hd9.below
                  have S9 := Aside0.mk (show (w9.heap[g6]? = some (.cells #[.int .i64 rid, .int .i64 kind, .int .i64 size, .slice A5 body.length c5] 102 (0, 0)) ∧ (w9.heap[g4]? = some (.cells #[.int .i64 b0, .int .i64 b1, .int .i64 b2, .int .i64 b3] 81 (0, 0)) ∧ w9.heap[g2]? = some (.cells #[.int .i64 0, .int .i64 0, .int .i64 0, .int .i64 0] 81 (0, 0)) ∧ Below w.heap.size w w9) ∧ Below w5.heap.size w5 w9) from ⟨blk_below hHeld.1 hb9, ⟨blk_below hHeld.2.1.1 hb9, blk_below hHeld.2.1.2.1 hb9, below_step hHeld.2.1.2.2 hb9⟩, below_step hHeld.2.2 hb9⟩)
                  have B8 := Aside0.mk (blk_below B8.out hb9)
                  clear hd9 hb9 hHeld
                  refine hK.out _ _ (S9.out) (fun hHeld => ?_)
                  clear hK K
                  refine norm_ (a' := ?_) ?_ ?_
                  rotate_left
                  · show Act.put _ (some 47) _ = _
                    simp only [Act.put, List.setIfInBounds_toArray, List.set_cons_zero, List.set_cons_succ, i64_w, i32_w]
                    rfl
                  refine pure_ (i := 16) (N := some 48) (v := ?_) (a' := ?_) #[true, true, true, true, true, true, true, true, true, true, true, true, true, true, true, true, true, true, false] rfl rfl (any_of HT_.out (by kernel_rfl)) (fun _ _ _ h => h) (Or.inl ⟨by rfl, ?_⟩) ?_ ?_
                  rotate_left
                  · intro w'
                    go_simp
                    with_reducible rfl
                  rotate_left
                  · simp only [Act.put, List.setIfInBounds_toArray, List.set_cons_zero, List.set_cons_succ, i64_w, i32_w]
                    rfl
                  exact hK0 g8 _ ⟨B8.out, hHeld.2.1, G8.out.1, G8.out.2.1, G8.out.2.2⟩
              · refine box_step (by rfl) (N := 8) rfl (cs := #[.int .i64 0, .int .i64 0, .int .i64 0, .int .i64 0]) (t := 81) ?hr ?_
                case hr => first | (go_simp; done) | (go_simp; rfl)
                intro g8 hgr w10 hbox hb9
                have S9 := Aside0.mk (show (w10.heap[g6]? = some (.cells #[.int .i64 rid, .int .i64 kind, .int .i64 size, .slice A5 body.length c5] 102 (0, 0)) ∧ (w10.heap[g4]? = some (.cells #[.int .i64 b0, .int .i64 b1, .int .i64 b2, .int .i64 b3] 81 (0, 0)) ∧ w10.heap[g2]? = some (.cells #[.int .i64 0, .int .i64 0, .int .i64 0, .int .i64 0] 81 (0, 0)) ∧ Below w.heap.size w w10) ∧ Below w5.heap.size w5 w10) from ⟨blk_below hHeld.1 hb9, ⟨blk_below hHeld.2.1.1 hb9, blk_below hHeld.2.1.2.1 hb9, below_step hHeld.2.1.2.2 hb9⟩, below_step hHeld.2.2 hb9⟩)
                have B8 := Aside0.mk hbox
                have G8 : Aside0 (w.heap.size ≤ g8 ∧ g2 ≠ g8 ∧ g4 ≠ g8) := ⟨by rw [hgr]; exact hHeld.2.1.2.2.size, by have := blk_lt hHeld.2.1.2.1; omega, by have := blk_lt hHeld.2.1.1; omega⟩
                clear hbox hb9 hgr hHeld
                refine hK.out _ _ (S9.out) (fun hHeld => ?_)
                clear hK K
                refine norm_ (a' := ?_) ?_ ?_
                rotate_left
                · show Act.put _ (some 8) _ = _
                  simp only [Act.put, List.setIfInBounds_toArray, List.set_cons_zero, List.set_cons_succ, i64_w, i32_w]
                  rfl
                refine one_ (i := 11) (N := some 43) #[true, true, true, true, true, true, true, true, true, true, true, true, true, true, true, false, false, true, false] rfl rfl (one_of HT_.out (by kernel_rfl)) (by decide) (fun K hK => ?_)
                refine goes_ Try.func130 (by kernel_rfl) rfl #[.slice B2 4 (c5 - 12)] (by rfl) rfl rfl (by first | rfl | (simp only [List.map_toArray, List.map_cons, List.map_nil]; first | done | rfl)) ?_
                have hcr := impl_numberAt.calls k B2 (c5 - 12) ((body.take 16).drop 12) n2 _ (Kd.C_below (Kd.F_now HF2.out) hHeld.2.2) (by have := HL2.out; have := HL5.out; have := H20.out; omega) M2.out
                rw [HL2.out] at hcr
                refine hcr.mono ?_
                clear hcr
                rintro e w9 ⟨rfl, hd9⟩
                refine ⟨_, rfl, ?_⟩
                have hb9 := hd9.below
                have S9 := Aside0.mk (show (w9.heap[g6]? = some (.cells #[.int .i64 rid, .int .i64 kind, .int .i64 size, .slice A5 body.length c5] 102 (0, 0)) ∧ (w9.heap[g4]? = some (.cells #[.int .i64 b0, .int .i64 b1, .int .i64 b2, .int .i64 b3] 81 (0, 0)) ∧ w9.heap[g2]? = some (.cells #[.int .i64 0, .int .i64 0, .int .i64 0, .int .i64 0] 81 (0, 0)) ∧ Below w.heap.size w w9) ∧ Below w5.heap.size w5 w9) from ⟨blk_below hHeld.1 hb9, ⟨blk_below hHeld.2.1.1 hb9, blk_below hHeld.2.1.2.1 hb9, below_step hHeld.2.1.2.2 hb9⟩, below_step hHeld.2.2 hb9⟩)
                have B8 := Aside0.mk (blk_below B8.out hb9)
                clear hd9 hb9 hHeld
                refine hK.out _ _ (S9.out) (fun hHeld => ?_)
                clear hK K
                refine norm_ (a' := ?_) ?_ ?_
                rotate_left
                · show Act.put _ (some 43) _ = _
                  simp only [Act.put, List.setIfInBounds_toArray, List.set_cons_zero, List.set_cons_succ, i64_w, i32_w]
                  rfl
                refine one_ (i := 15) (N := some 47) #[true, true, true, true, true, true, true, true, true, true, true, true, true, true, true, true, false, true, false] rfl rfl (one_of HT_.out (by kernel_rfl)) (by decide) (fun K hK => ?_)
                refine goes_ Try.func130 (by kernel_rfl) rfl #[.slice B3 4 (c5 - 16)] (by rfl) rfl rfl (by first | rfl | (simp only [List.map_toArray, List.map_cons, List.map_nil]; first | done | rfl)) ?_
                have hcr := impl_numberAt.calls k B3 (c5 - 16) ((body.take 20).drop 16) n3 _ (Kd.C_below (Kd.F_now HF3.out) hHeld.2.2) (by have := HL3.out; have := HL5.out; have := H20.out; omega) M3.out
                rw [HL3.out] at hcr
                refine hcr.mono ?_
                clear hcr
                rintro e w9 ⟨rfl, hd9⟩
                refine ⟨_, rfl, ?_⟩
                have hb9 := hd9.below
                have S9 := Aside0.mk (show (w9.heap[g6]? = some (.cells #[.int .i64 rid, .int .i64 kind, .int .i64 size, .slice A5 body.length c5] 102 (0, 0)) ∧ (w9.heap[g4]? = some (.cells #[.int .i64 b0, .int .i64 b1, .int .i64 b2, .int .i64 b3] 81 (0, 0)) ∧ w9.heap[g2]? = some (.cells #[.int .i64 0, .int .i64 0, .int .i64 0, .int .i64 0] 81 (0, 0)) ∧ Below w.heap.size w w9) ∧ Below w5.heap.size w5 w9) from ⟨blk_below hHeld.1 hb9, ⟨blk_below hHeld.2.1.1 hb9, blk_below hHeld.2.1.2.1 hb9, below_step hHeld.2.1.2.2 hb9⟩, below_step hHeld.2.2 hb9⟩)
                have B8 := Aside0.mk (blk_below B8.out hb9)
                clear hd9 hb9 hHeld
                refine hK.out _ _ (S9.out) (fun hHeld => ?_)
                clear hK K
                refine norm_ (a' := ?_) ?_ ?_
                rotate_left
                · show Act.put _ (some 47) _ = _
                  simp only [Act.put, List.setIfInBounds_toArray, List.set_cons_zero, List.set_cons_succ, i64_w, i32_w]
                  rfl
                refine pure_ (i := 16) (N := some 48) (v := ?_) (a' := ?_) #[true, true, true, true, true, true, true, true, true, true, true, true, true, true, true, true, true, true, false] rfl rfl (any_of HT_.out (by kernel_rfl)) (fun _ _ _ h => h) (Or.inl ⟨by rfl, ?_⟩) ?_ ?_
                rotate_left
                · intro w'
                  go_simp
                  with_reducible rfl
                rotate_left
                · simp only [Act.put, List.setIfInBounds_toArray, List.set_cons_zero, List.set_cons_succ, i64_w, i32_w]
                  rfl
                exact hK0 g8 _ ⟨B8.out, hHeld.2.1, G8.out.1, G8.out.2.1, G8.out.2.2⟩
            · refine box_step (by rfl) (N := 8) rfl (cs := #[.int .i64 0, .int .i64 0, .int .i64 0, .int .i64 0]) (t := 81) ?hr ?_
              case hr => first | (go_simp; done) | (go_simp; rfl)
              intro g8 hgr w10 hbox hb9
              have S9 := Aside0.mk (show (w10.heap[g6]? = some (.cells #[.int .i64 rid, .int .i64 kind, .int .i64 size, .slice A5 body.length c5] 102 (0, 0)) ∧ (w10.heap[g4]? = some (.cells #[.int .i64 b0, .int .i64 b1, .int .i64 b2, .int .i64 b3] 81 (0, 0)) ∧ w10.heap[g2]? = some (.cells #[.int .i64 0, .int .i64 0, .int .i64 0, .int .i64 0] 81 (0, 0)) ∧ Below w.heap.size w w10) ∧ Below w5.heap.size w5 w10) from ⟨blk_below hHeld.1 hb9, ⟨blk_below hHeld.2.1.1 hb9, blk_below hHeld.2.1.2.1 hb9, below_step hHeld.2.1.2.2 hb9⟩, below_step hHeld.2.2 hb9⟩)
              have B8 := Aside0.mk hbox
              have G8 : Aside0 (w.heap.size ≤ g8 ∧ g2 ≠ g8 ∧ g4 ≠ g8) := ⟨by rw [hgr]; exact hHeld.2.1.2.2.size, by have := blk_lt hHeld.2.1.2.1; omega, by have := blk_lt hHeld.2.1.1; omega⟩
              clear hbox hb9 hgr hHeld
              refine hK.out _ _ (S9.out) (fun hHeld => ?_)
              clear hK K
              refine norm_ (a' := ?_) ?_ ?_
              rotate_left
              · show Act.put _ (some 8) _ = _
                simp only [Act.put, List.setIfInBounds_toArray, List.set_cons_zero, List.set_cons_succ, i64_w, i32_w]
                rfl
              refine one_ (i := 7) (N := some 39) #[true, true, true, true, true, true, true, true, true, true, true, false, true, true, true, false, false, true, false] rfl rfl (one_of HT_.out (by kernel_rfl)) (by decide) (fun K hK => ?_)
              refine goes_ Try.func130 (by kernel_rfl) rfl #[.slice B1 4 (c5 - 8)] (by rfl) rfl rfl (by first | rfl | (simp only [List.map_toArray, List.map_cons, List.map_nil]; first | done | rfl)) ?_
              have hcr := impl_numberAt.calls k B1 (c5 - 8) ((body.take 12).drop 8) n1 _ (Kd.C_below (Kd.F_now HF1.out) hHeld.2.2) (by have := HL1.out; have := HL5.out; have := H20.out; omega) M1.out
              rw [HL1.out] at hcr
              refine hcr.mono ?_
              clear hcr
              rintro e w9 ⟨rfl, hd9⟩
              refine ⟨_, rfl, ?_⟩
              have hb9 := hd9.below
              have S9 := Aside0.mk (show (w9.heap[g6]? = some (.cells #[.int .i64 rid, .int .i64 kind, .int .i64 size, .slice A5 body.length c5] 102 (0, 0)) ∧ (w9.heap[g4]? = some (.cells #[.int .i64 b0, .int .i64 b1, .int .i64 b2, .int .i64 b3] 81 (0, 0)) ∧ w9.heap[g2]? = some (.cells #[.int .i64 0, .int .i64 0, .int .i64 0, .int .i64 0] 81 (0, 0)) ∧ Below w.heap.size w w9) ∧ Below w5.heap.size w5 w9) from ⟨blk_below hHeld.1 hb9, ⟨blk_below hHeld.2.1.1 hb9, blk_below hHeld.2.1.2.1 hb9, below_step hHeld.2.1.2.2 hb9⟩, below_step hHeld.2.2 hb9⟩)
              have B8 := Aside0.mk (blk_below B8.out hb9)
              clear hd9 hb9 hHeld
              refine hK.out _ _ (S9.out) (fun hHeld => ?_)
              clear hK K
              refine norm_ (a' := ?_) ?_ ?_
              rotate_left
              · show Act.put _ (some 39) _ = _
                simp only [Act.put, List.setIfInBounds_toArray, List.set_cons_zero, List.set_cons_succ, i64_w, i32_w]
                rfl
              refine one_ (i := 11) (N := some 43) #[true, true, true, true, true, true, true, true, true, true, true, true, true, true, true, false, false, true, false] rfl rfl (one_of HT_.out (by kernel_rfl)) (by decide) (fun K hK => ?_)
              refine goes_ Try.func130 (by kernel_rfl) rfl #[.slice B2 4 (c5 - 12)] (by rfl) rfl rfl (by first | rfl | (simp only [List.map_toArray, List.map_cons, List.map_nil]; first | done | rfl)) ?_
              have hcr := impl_numberAt.calls k B2 (c5 - 12) ((body.take 16).drop 12) n2 _ (Kd.C_below (Kd.F_now HF2.out) hHeld.2.2) (by have := HL2.out; have := HL5.out; have := H20.out; omega) M2.out
              rw [HL2.out] at hcr
              refine hcr.mono ?_
              clear hcr
              rintro e w9 ⟨rfl, hd9⟩
              refine ⟨_, rfl, ?_⟩
              have hb9 := hd9.below
              have S9 := Aside0.mk (show (w9.heap[g6]? = some (.cells #[.int .i64 rid, .int .i64 kind, .int .i64 size, .slice A5 body.length c5] 102 (0, 0)) ∧ (w9.heap[g4]? = some (.cells #[.int .i64 b0, .int .i64 b1, .int .i64 b2, .int .i64 b3] 81 (0, 0)) ∧ w9.heap[g2]? = some (.cells #[.int .i64 0, .int .i64 0, .int .i64 0, .int .i64 0] 81 (0, 0)) ∧ Below w.heap.size w w9) ∧ Below w5.heap.size w5 w9) from ⟨blk_below hHeld.1 hb9, ⟨blk_below hHeld.2.1.1 hb9, blk_below hHeld.2.1.2.1 hb9, below_step hHeld.2.1.2.2 hb9⟩, below_step hHeld.2.2 hb9⟩)
              have B8 := Aside0.mk (blk_below B8.out hb9)
              clear hd9 hb9 hHeld
              refine hK.out _ _ (S9.out) (fun hHeld => ?_)
              clear hK K
              refine norm_ (a' := ?_) ?_ ?_
              rotate_left
              · show Act.put _ (some 43) _ = _
                simp only [Act.put, List.setIfInBounds_toArray, List.set_cons_zero, List.set_cons_succ, i64_w, i32_w]
                rfl
              refine one_ (i := 15) (N := some 47) #[true, true, true, true, true, true, true, true, true, true, true, true, true, true, true, true, false, true, false] rfl rfl (one_of HT_.out (by kernel_rfl)) (by decide) (fun K hK => ?_)
              refine goes_ Try.func130 (by kernel_rfl) rfl #[.slice B3 4 (c5 - 16)] (by rfl) rfl rfl (by first | rfl | (simp only [List.map_toArray, List.map_cons, List.map_nil]; first | done | rfl)) ?_
              have hcr := impl_numberAt.calls k B3 (c5 - 16) ((body.take 20).drop 16) n3 _ (Kd.C_below (Kd.F_now HF3.out) hHeld.2.2) (by have := HL3.out; have := HL5.out; have := H20.out; omega) M3.out
              rw [HL3.out] at hcr
              refine hcr.mono ?_
              clear hcr
              rintro e w9 ⟨rfl, hd9⟩
              refine ⟨_, rfl, ?_⟩
              have hb9 := hd9.below
              have S9 := Aside0.mk (show (w9.heap[g6]? = some (.cells #[.int .i64 rid, .int .i64 kind, .int .i64 size, .slice A5 body.length c5] 102 (0, 0)) ∧ (w9.heap[g4]? = some (.cells #[.int .i64 b0, .int .i64 b1, .int .i64 b2, .int .i64 b3] 81 (0, 0)) ∧ w9.heap[g2]? = some (.cells #[.int .i64 0, .int .i64 0, .int .i64 0, .int .i64 0] 81 (0, 0)) ∧ Below w.heap.size w w9) ∧ Below w5.heap.size w5 w9) from ⟨blk_below hHeld.1 hb9, ⟨blk_below hHeld.2.1.1 hb9, blk_below hHeld.2.1.2.1 hb9, below_step hHeld.2.1.2.2 hb9⟩, below_step hHeld.2.2 hb9⟩)
              have B8 := Aside0.mk (blk_below B8.out hb9)
              clear hd9 hb9 hHeld
              refine hK.out _ _ (S9.out) (fun hHeld => ?_)
              clear hK K
              refine norm_ (a' := ?_) ?_ ?_
              rotate_left
              · show Act.put _ (some 47) _ = _
                simp only [Act.put, List.setIfInBounds_toArray, List.set_cons_zero, List.set_cons_succ, i64_w, i32_w]
                rfl
              refine pure_ (i := 16) (N := some 48) (v := ?_) (a' := ?_) #[true, true, true, true, true, true, true, true, true, true, true, true, true, true, true, true, true, true, false] rfl rfl (any_of HT_.out (by kernel_rfl)) (fun _ _ _ h => h) (Or.inl ⟨by rfl, ?_⟩) ?_ ?_
              rotate_left
              · intro w'
                go_simp
                with_reducible rfl
              rotate_left
              · simp only [Act.put, List.setIfInBounds_toArray, List.set_cons_zero, List.set_cons_succ, i64_w, i32_w]
                rfl
              exact hK0 g8 _ ⟨B8.out, hHeld.2.1, G8.out.1, G8.out.2.1, G8.out.2.2⟩
          · refine box_step (by rfl) (N := 8) rfl (cs := #[.int .i64 0, .int .i64 0, .int .i64 0, .int .i64 0]) (t := 81) ?hr ?_
            case hr => first | (go_simp; done) | (go_simp; rfl)
            intro g8 hgr w10 hbox hb9
            have S9 := Aside0.mk (show (w10.heap[g6]? = some (.cells #[.int .i64 rid, .int .i64 kind, .int .i64 size, .slice A5 body.length c5] 102 (0, 0)) ∧ (w10.heap[g4]? = some (.cells #[.int .i64 b0, .int .i64 b1, .int .i64 b2, .int .i64 b3] 81 (0, 0)) ∧ w10.heap[g2]? = some (.cells #[.int .i64 0, .int .i64 0, .int .i64 0, .int .i64 0] 81 (0, 0)) ∧ Below w.heap.size w w10) ∧ Below w5.heap.size w5 w10) from ⟨blk_below hHeld.1 hb9, ⟨blk_below hHeld.2.1.1 hb9, blk_below hHeld.2.1.2.1 hb9, below_step hHeld.2.1.2.2 hb9⟩, below_step hHeld.2.2 hb9⟩)
            have B8 := Aside0.mk hbox
            have G8 : Aside0 (w.heap.size ≤ g8 ∧ g2 ≠ g8 ∧ g4 ≠ g8) := ⟨by rw [hgr]; exact hHeld.2.1.2.2.size, by have := blk_lt hHeld.2.1.2.1; omega, by have := blk_lt hHeld.2.1.1; omega⟩
            clear hbox hb9 hgr hHeld
            refine hK.out _ _ (S9.out) (fun hHeld => ?_)
            clear hK K
            refine norm_ (a' := ?_) ?_ ?_
            rotate_left
            · show Act.put _ (some 8) _ = _
              simp only [Act.put, List.setIfInBounds_toArray, List.set_cons_zero, List.set_cons_succ, i64_w, i32_w]
              rfl
            refine one_ (i := 3) (N := some 35) #[true, true, true, true, true, true, true, false, true, true, true, false, true, true, true, false, false, true, false] rfl rfl (one_of HT_.out (by kernel_rfl)) (by decide) (fun K hK => ?_)
            refine goes_ Try.func130 (by kernel_rfl) rfl #[.slice A5 8 c5] (by rfl) rfl rfl (by first | rfl | (simp only [List.map_toArray, List.map_cons, List.map_nil]; first | done | rfl)) ?_
            have hcr := impl_numberAt.calls k A5 c5 (body.take 8) n0 _ (Kd.C_below (Kd.F_now HF0.out) hHeld.2.2) (by have := HL0.out; have := HL5.out; have := H20.out; omega) M0.out
            rw [HL0.out] at hcr
            refine hcr.mono ?_
            clear hcr
            rintro e w9 ⟨rfl, hd9⟩
            refine ⟨_, rfl, ?_⟩
            have hb9 := hd9.below
            have S9 := Aside0.mk (show (w9.heap[g6]? = some (.cells #[.int .i64 rid, .int .i64 kind, .int .i64 size, .slice A5 body.length c5] 102 (0, 0)) ∧ (w9.heap[g4]? = some (.cells #[.int .i64 b0, .int .i64 b1, .int .i64 b2, .int .i64 b3] 81 (0, 0)) ∧ w9.heap[g2]? = some (.cells #[.int .i64 0, .int .i64 0, .int .i64 0, .int .i64 0] 81 (0, 0)) ∧ Below w.heap.size w w9) ∧ Below w5.heap.size w5 w9) from ⟨blk_below hHeld.1 hb9, ⟨blk_below hHeld.2.1.1 hb9, blk_below hHeld.2.1.2.1 hb9, below_step hHeld.2.1.2.2 hb9⟩, below_step hHeld.2.2 hb9⟩)
            have B8 := Aside0.mk (blk_below B8.out hb9)
            clear hd9 hb9 hHeld
            refine hK.out _ _ (S9.out) (fun hHeld => ?_)
            clear hK K
            refine norm_ (a' := ?_) ?_ ?_
            rotate_left
            · show Act.put _ (some 35) _ = _
              simp only [Act.put, List.setIfInBounds_toArray, List.set_cons_zero, List.set_cons_succ, i64_w, i32_w]
              rfl
            refine one_ (i := 7) (N := some 39) #[true, true, true, true, true, true, true, true, true, true, true, false, true, true, true, false, false, true, false] rfl rfl (one_of HT_.out (by kernel_rfl)) (by decide) (fun K hK => ?_)
            refine goes_ Try.func130 (by kernel_rfl) rfl #[.slice B1 4 (c5 - 8)] (by rfl) rfl rfl (by first | rfl | (simp only [List.map_toArray, List.map_cons, List.map_nil]; first | done | rfl)) ?_
            have hcr := impl_numberAt.calls k B1 (c5 - 8) ((body.take 12).drop 8) n1 _ (Kd.C_below (Kd.F_now HF1.out) hHeld.2.2) (by have := HL1.out; have := HL5.out; have := H20.out; omega) M1.out
            rw [HL1.out] at hcr
            refine hcr.mono ?_
            clear hcr
            rintro e w9 ⟨rfl, hd9⟩
            refine ⟨_, rfl, ?_⟩
            have hb9 := hd9.below
            have S9 := Aside0.mk (show (w9.heap[g6]? = some (.cells #[.int .i64 rid, .int .i64 kind, .int .i64 size, .slice A5 body.length c5] 102 (0, 0)) ∧ (w9.heap[g4]? = some (.cells #[.int .i64 b0, .int .i64 b1, .int .i64 b2, .int .i64 b3] 81 (0, 0)) ∧ w9.heap[g2]? = some (.cells #[.int .i64 0, .int .i64 0, .int .i64 0, .int .i64 0] 81 (0, 0)) ∧ Below w.heap.size w w9) ∧ Below w5.heap.size w5 w9) from ⟨blk_below hHeld.1 hb9, ⟨blk_below hHeld.2.1.1 hb9, blk_below hHeld.2.1.2.1 hb9, below_step hHeld.2.1.2.2 hb9⟩, below_step hHeld.2.2 hb9⟩)
            have B8 := Aside0.mk (blk_below B8.out hb9)
            clear hd9 hb9 hHeld
            refine hK.out _ _ (S9.out) (fun hHeld => ?_)
            clear hK K
            refine norm_ (a' := ?_) ?_ ?_
            rotate_left
            · show Act.put _ (some 39) _ = _
              simp only [Act.put, List.setIfInBounds_toArray, List.set_cons_zero, List.set_cons_succ, i64_w, i32_w]
              rfl
            refine one_ (i := 11) (N := some 43) #[true, true, true, true, true, true, true, true, true, true, true, true, true, true, true, false, false, true, false] rfl rfl (one_of HT_.out (by kernel_rfl)) (by decide) (fun K hK => ?_)
            refine goes_ Try.func130 (by kernel_rfl) rfl #[.slice B2 4 (c5 - 12)] (by rfl) rfl rfl (by first | rfl | (simp only [List.map_toArray, List.map_cons, List.map_nil]; first | done | rfl)) ?_
            have hcr := impl_numberAt.calls k B2 (c5 - 12) ((body.take 16).drop 12) n2 _ (Kd.C_below (Kd.F_now HF2.out) hHeld.2.2) (by have := HL2.out; have := HL5.out; have := H20.out; omega) M2.out
            rw [HL2.out] at hcr
            refine hcr.mono ?_
            clear hcr
            rintro e w9 ⟨rfl, hd9⟩
            refine ⟨_, rfl, ?_⟩
            have hb9 := hd9.below
            have S9 := Aside0.mk (show (w9.heap[g6]? = some (.cells #[.int .i64 rid, .int .i64 kind, .int .i64 size, .slice A5 body.length c5] 102 (0, 0)) ∧ (w9.heap[g4]? = some (.cells #[.int .i64 b0, .int .i64 b1, .int .i64 b2, .int .i64 b3] 81 (0, 0)) ∧ w9.heap[g2]? = some (.cells #[.int .i64 0, .int .i64 0, .int .i64 0, .int .i64 0] 81 (0, 0)) ∧ Below w.heap.size w w9) ∧ Below w5.heap.size w5 w9) from ⟨blk_below hHeld.1 hb9, ⟨blk_below hHeld.2.1.1 hb9, blk_below hHeld.2.1.2.1 hb9, below_step hHeld.2.1.2.2 hb9⟩, below_step hHeld.2.2 hb9⟩)
            have B8 := Aside0.mk (blk_below B8.out hb9)
            clear hd9 hb9 hHeld
            refine hK.out _ _ (S9.out) (fun hHeld => ?_)
            clear hK K
            refine norm_ (a' := ?_) ?_ ?_
            rotate_left
            · show Act.put _ (some 43) _ = _
              simp only [Act.put, List.setIfInBounds_toArray, List.set_cons_zero, List.set_cons_succ, i64_w, i32_w]
              rfl
            refine one_ (i := 15) (N := some 47) #[true, true, true, true, true, true, true, true, true, true, true, true, true, true, true, true, false, true, false] rfl rfl (one_of HT_.out (by kernel_rfl)) (by decide) (fun K hK => ?_)
            refine goes_ Try.func130 (by kernel_rfl) rfl #[.slice B3 4 (c5 - 16)] (by rfl) rfl rfl (by first | rfl | (simp only [List.map_toArray, List.map_cons, List.map_nil]; first | done | rfl)) ?_
            have hcr := impl_numberAt.calls k B3 (c5 - 16) ((body.take 20).drop 16) n3 _ (Kd.C_below (Kd.F_now HF3.out) hHeld.2.2) (by have := HL3.out; have := HL5.out; have := H20.out; omega) M3.out
            rw [HL3.out] at hcr
            refine hcr.mono ?_
            clear hcr
            rintro e w9 ⟨rfl, hd9⟩
            refine ⟨_, rfl, ?_⟩
            have hb9 := hd9.below
            have S9 := Aside0.mk (show (w9.heap[g6]? = some (.cells #[.int .i64 rid, .int .i64 kind, .int .i64 size, .slice A5 body.length c5] 102 (0, 0)) ∧ (w9.heap[g4]? = some (.cells #[.int .i64 b0, .int .i64 b1, .int .i64 b2, .int .i64 b3] 81 (0, 0)) ∧ w9.heap[g2]? = some (.cells #[.int .i64 0, .int .i64 0, .int .i64 0, .int .i64 0] 81 (0, 0)) ∧ Below w.heap.size w w9) ∧ Below w5.heap.size w5 w9) from ⟨blk_below hHeld.1 hb9, ⟨blk_below hHeld.2.1.1 hb9, blk_below hHeld.2.1.2.1 hb9, below_step hHeld.2.1.2.2 hb9⟩, below_step hHeld.2.2 hb9⟩)
            have B8 := Aside0.mk (blk_below B8.out hb9)
            clear hd9 hb9 hHeld
            refine hK.out _ _ (S9.out) (fun hHeld => ?_)
            clear hK K
            refine norm_ (a' := ?_) ?_ ?_
            rotate_left
            · show Act.put _ (some 47) _ = _
              simp only [Act.put, List.setIfInBounds_toArray, List.set_cons_zero, List.set_cons_succ, i64_w, i32_w]
              rfl
            refine pure_ (i := 16) (N := some 48) (v := ?_) (a' := ?_) #[true, true, true, true, true, true, true, true, true, true, true, true, true, true, true, true, true, true, false] rfl rfl (any_of HT_.out (by kernel_rfl)) (fun _ _ _ h => h) (Or.inl ⟨by rfl, ?_⟩) ?_ ?_
            rotate_left
            · intro w'
              go_simp
              with_reducible rfl
            rotate_left
            · simp only [Act.put, List.setIfInBounds_toArray, List.set_cons_zero, List.set_cons_succ, i64_w, i32_w]
              rfl
            exact hK0 g8 _ ⟨B8.out, hHeld.2.1, G8.out.1, G8.out.2.1, G8.out.2.2⟩
        rintro g8 w11 ⟨hb11, ⟨hr11, hr12, hB11⟩, hge11, hne11, hne12⟩
        refine norm_ (a' := ?_) ?_ ?_
        rotate_left
        · skip
          simp only [putAll, Act.put, List.setIfInBounds_toArray, List.set_cons_zero, List.set_cons_succ, i64_w, i32_w]
          rfl
        have hHeld : True := trivial
        refine last_ (i := 18) (N := none) #[true, true, true, true, true, true, true, true, true, true, true, true, true, true, true, true, true, true, true] rfl rfl (one_of HT_.out (by kernel_rfl)) (by decide) (fun K hK => ?_)
        refine store_blk_step (by rfl) rfl 81 (.tmp 8) (.tmp 48) rfl (off := 0) (u := .agg #[.int .i64 n0, .int .i64 n1, .int .i64 n2, .int .i64 n3]) #[.int .i64 n0, .int .i64 n1, .int .i64 n2, .int .i64 n3] rfl rfl hb11 [.int .i64 n0, .int .i64 n1, .int .i64 n2, .int .i64 n3] rfl (by kernel_rfl) (Nat.le_of_ble_eq_true rfl) rfl rfl ?_
        intro w12 hblk hgrw
        have B8 := Aside0.mk hblk
        have HB := Aside0.mk (hB11.grown hgrw hB11.size (by intro q hq; cases hq; exact hge11))
        have BB := Aside0.mk (blk_grown hr11 hgrw (by intro e; exact hne12 (Option.some.inj e)))
        have BR := Aside0.mk (blk_grown hr12 hgrw (by intro e; exact hne11 (Option.some.inj e)))
        have G8 : Aside0 (w.heap.size ≤ g8 ∧ g2 ≠ g8 ∧ g4 ≠ g8) := ⟨hge11, hne11, hne12⟩
        clear hblk hgrw hb11 hr11 hr12 hB11 hge11 hne11 hne12 hHeld
        refine hK.out _ _ ?_
        clear hK K
        refine done_ (done_of HT_.out (by kernel_rfl)) ?_
        try clear hHeld
        have h := HH.out
        by_cases q1 : okSuper n0 n1 n2 n3 = true
        case neg =>
          rw [if_neg q1] at h
          have q1' : okSuper n0 n1 n2 n3 = false := by simpa using q1
          go_wp2_with fail
          refine start_ (n := 26) (S := fun w' => w'.heap[g8]? = some (.cells #[.int .i64 n0, .int .i64 n1, .int .i64 n2, .int .i64 n3] 81 (0, 0)) ∧ (w'.heap[g4]? = some (.cells #[.int .i64 b0, .int .i64 b1, .int .i64 b2, .int .i64 b3] 81 (0, 0)) ∧ w'.heap[g2]? = some (.cells #[.int .i64 0, .int .i64 0, .int .i64 0, .int .i64 0] 81 (0, 0)) ∧ Below w.heap.size w w')) (ds := []) #[false, false, false, false, false, false, false, false, false, false, false, false, false, false, false, false, false, false, false, false, false, false, false, false, false, false] (by kernel_rfl) rfl rfl (⟨blk_drew B8.out, blk_drew BB.out, blk_drew BR.out, below_drew1 HB.out⟩) (fun hHeld => ?_); refine with_tabW impl_bestSuper.tab8 impl_bestSuper.bits8 (fun HT_ HW_ => ?_)
          refine take_ (i := 0) (N := some 49) (v := ?_) (a' := ?_) #[true, false, false, false, false, false, false, false, false, false, false, false, false, false, false, false, false, false, false, false, false, false, false, false, false, false] rfl rfl (take_ofW HT_.out HW_.out (by kernel_rfl)) (fun _ _ _ h => h) (Or.inl ⟨by rfl, ?_⟩) hHeld ?_ ?_
          rotate_left
          · intro w' s0
            have hs0 : w'.cell? ⟨g8, 0, none⟩ = some (.int .i64 n0) := (blk_cell s0.1 0).trans rfl
            have hs1 : w'.cell? ⟨g8, 1, none⟩ = some (.int .i64 n1) := (blk_cell s0.1 1).trans rfl
            have hs2 : w'.cell? ⟨g8, 2, none⟩ = some (.int .i64 n2) := (blk_cell s0.1 2).trans rfl
            have hs3 : w'.cell? ⟨g8, 3, none⟩ = some (.int .i64 n3) := (blk_cell s0.1 3).trans rfl
            clear s0
            go_simp
            with_reducible rfl
          rotate_left
          · simp only [Act.put, List.setIfInBounds_toArray, List.set_cons_zero, List.set_cons_succ, i64_w, i32_w]
            rfl
          refine one_ (i := 1) (N := some 50) #[true, true, false, false, false, false, false, false, false, false, false, false, false, false, false, false, false, false, false, false, false, false, false, false, false, false] rfl rfl (one_of HT_.out (by kernel_rfl)) (by decide) (fun K hK => ?_)
          refine goes_ Try.func151 (by kernel_rfl) rfl #[.agg #[.int .i64 n0, .int .i64 n1, .int .i64 n2, .int .i64 n3]] (by rfl) rfl rfl (by first | rfl | (simp only [List.map_toArray, List.map_cons, List.map_nil]; first | done | rfl)) ?_
          refine (impl_Super_valid.calls n0 n1 n2 n3 false _ q1').mono ?_
          rintro e w13 ⟨rfl, hb⟩
          refine ⟨_, rfl, ?_⟩
          have S13 := Aside0.mk (show (w13.heap[g8]? = some (.cells #[.int .i64 n0, .int .i64 n1, .int .i64 n2, .int .i64 n3] 81 (0, 0)) ∧ (w13.heap[g4]? = some (.cells #[.int .i64 b0, .int .i64 b1, .int .i64 b2, .int .i64 b3] 81 (0, 0)) ∧ w13.heap[g2]? = some (.cells #[.int .i64 0, .int .i64 0, .int .i64 0, .int .i64 0] 81 (0, 0)) ∧ Below w.heap.size w w13)) from ⟨blk_below hHeld.1 hb, blk_below hHeld.2.1 hb, blk_below hHeld.2.2.1 hb, below_step hHeld.2.2.2 hb⟩)
          clear hb hHeld
          refine hK.out _ _ (S13.out) (fun hHeld => ?_)
          clear hK K
          refine norm_ (a' := ?_) ?_ ?_
          rotate_left
          · show Act.put _ (some 50) _ = _
            simp only [Act.put, List.setIfInBounds_toArray, List.set_cons_zero, List.set_cons_succ, i64_w, i32_w]
            rfl
          refine pure_ (i := 2) (N := some 51) (v := ?_) (a' := ?_) #[true, true, true, false, false, false, false, false, false, false, false, false, false, false, false, false, false, false, false, false, false, false, false, false, false, false] rfl rfl (any_of HT_.out (by kernel_rfl)) (fun _ _ _ h => h) (Or.inl ⟨by rfl, ?_⟩) ?_ ?_
          rotate_left
          · intro w'
            go_simp
            with_reducible rfl
          rotate_left
          · simp only [Act.put, List.setIfInBounds_toArray, List.set_cons_zero, List.set_cons_succ, i64_w, i32_w]
            rfl
          refine pure_ (i := 3) (N := some 52) (v := undef) (a' := ?_) #[true, true, true, true, false, false, false, false, false, false, false, false, false, false, false, false, false, false, false, false, false, false, false, false, false, false] rfl rfl (any_of HT_.out (by kernel_rfl)) (fun _ _ _ h => h) (Or.inr ⟨by rfl, rfl⟩) ?_ ?_
          rotate_left
          · simp only [Act.put, List.setIfInBounds_toArray, List.set_cons_zero, List.set_cons_succ, i64_w, i32_w]
            rfl
          refine pure_ (i := 4) (N := some 53) (v := undef) (a' := ?_) #[true, true, true, true, true, false, false, false, false, false, false, false, false, false, false, false, false, false, false, false, false, false, false, false, false, false] rfl rfl (any_of HT_.out (by kernel_rfl)) (fun _ _ _ h => h) (Or.inr ⟨by rfl, rfl⟩) ?_ ?_
          rotate_left
          · simp only [Act.put, List.setIfInBounds_toArray, List.set_cons_zero, List.set_cons_succ, i64_w, i32_w]
            rfl
          refine pure_ (i := 5) (N := some 54) (v := undef) (a' := ?_) #[true, true, true, true, true, true, false, false, false, false, false, false, false, false, false, false, false, false, false, false, false, false, false, false, false, false] rfl rfl (any_of HT_.out (by kernel_rfl)) (fun _ _ _ h => h) (Or.inr ⟨by rfl, rfl⟩) ?_ ?_
          rotate_left
          · simp only [Act.put, List.setIfInBounds_toArray, List.set_cons_zero, List.set_cons_succ, i64_w, i32_w]
            rfl
          refine pure_ (i := 6) (N := some 55) (v := undef) (a' := ?_) #[true, true, true, true, true, true, true, false, false, false, false, false, false, false, false, false, false, false, false, false, false, false, false, false, false, false] rfl rfl (any_of HT_.out (by kernel_rfl)) (fun _ _ _ h => h) (Or.inr ⟨by rfl, rfl⟩) ?_ ?_
          rotate_left
          · simp only [Act.put, List.setIfInBounds_toArray, List.set_cons_zero, List.set_cons_succ, i64_w, i32_w]
            rfl
          refine pure_ (i := 7) (N := some 56) (v := undef) (a' := ?_) #[true, true, true, true, true, true, true, true, false, false, false, false, false, false, false, false, false, false, false, false, false, false, false, false, false, false] rfl rfl (any_of HT_.out (by kernel_rfl)) (fun _ _ _ h => h) (Or.inr ⟨by rfl, rfl⟩) ?_ ?_
          rotate_left
          · simp only [Act.put, List.setIfInBounds_toArray, List.set_cons_zero, List.set_cons_succ, i64_w, i32_w]
            rfl
          refine pure_ (i := 8) (N := some 57) (v := ?_) (a' := ?_) #[true, true, true, true, true, true, true, true, true, false, false, false, false, false, false, false, false, false, false, false, false, false, false, false, false, false] rfl rfl (any_of HT_.out (by kernel_rfl)) (fun _ _ _ h => h) (Or.inl ⟨by rfl, ?_⟩) ?_ ?_
          rotate_left
          · intro w'
            go_simp
            with_reducible rfl
          rotate_left
          · simp only [Act.put, List.setIfInBounds_toArray, List.set_cons_zero, List.set_cons_succ, i64_w, i32_w]
            rfl
          refine pure_ (i := 9) (N := some 58) (v := ?_) (a' := ?_) #[true, true, true, true, true, true, true, true, true, true, false, false, false, false, false, false, false, false, false, false, false, false, false, false, false, false] rfl rfl (any_of HT_.out (by kernel_rfl)) (fun _ _ _ h => h) (Or.inl ⟨by rfl, ?_⟩) ?_ ?_
          rotate_left
          · intro w'
            go_simp
            with_reducible rfl
          rotate_left
          · simp only [Act.put, List.setIfInBounds_toArray, List.set_cons_zero, List.set_cons_succ, i64_w, i32_w]
            rfl
          refine pure_ (i := 10) (N := some 59) (v := undef) (a' := ?_) #[true, true, true, true, true, true, true, true, true, true, true, false, false, false, false, false, false, false, false, false, false, false, false, false, false, false] rfl rfl (any_of HT_.out (by kernel_rfl)) (fun _ _ _ h => h) (Or.inr ⟨by rfl, rfl⟩) ?_ ?_
          rotate_left
          · simp only [Act.put, List.setIfInBounds_toArray, List.set_cons_zero, List.set_cons_succ, i64_w, i32_w]
            rfl
          refine pure_ (i := 11) (N := some 60) (v := undef) (a' := ?_) #[true, true, true, true, true, true, true, true, true, true, true, true, false, false, false, false, false, false, false, false, false, false, false, false, false, false] rfl rfl (any_of HT_.out (by kernel_rfl)) (fun _ _ _ h => h) (Or.inr ⟨by rfl, rfl⟩) ?_ ?_
          rotate_left
          · simp only [Act.put, List.setIfInBounds_toArray, List.set_cons_zero, List.set_cons_succ, i64_w, i32_w]
            rfl
          refine pure_ (i := 12) (N := some 61) (v := undef) (a' := ?_) #[true, true, true, true, true, true, true, true, true, true, true, true, true, false, false, false, false, false, false, false, false, false, false, false, false, false] rfl rfl (any_of HT_.out (by kernel_rfl)) (fun _ _ _ h => h) (Or.inr ⟨by rfl, rfl⟩) ?_ ?_
          rotate_left
          · simp only [Act.put, List.setIfInBounds_toArray, List.set_cons_zero, List.set_cons_succ, i64_w, i32_w]
            rfl
          refine pure_ (i := 13) (N := some 62) (v := undef) (a' := ?_) #[true, true, true, true, true, true, true, true, true, true, true, true, true, true, false, false, false, false, false, false, false, false, false, false, false, false] rfl rfl (any_of HT_.out (by kernel_rfl)) (fun _ _ _ h => h) (Or.inr ⟨by rfl, rfl⟩) ?_ ?_
          rotate_left
          · simp only [Act.put, List.setIfInBounds_toArray, List.set_cons_zero, List.set_cons_succ, i64_w, i32_w]
            rfl
          refine pure_ (i := 14) (N := some 63) (v := undef) (a' := ?_) #[true, true, true, true, true, true, true, true, true, true, true, true, true, true, true, false, false, false, false, false, false, false, false, false, false, false] rfl rfl (any_of HT_.out (by kernel_rfl)) (fun _ _ _ h => h) (Or.inr ⟨by rfl, rfl⟩) ?_ ?_
          rotate_left
          · simp only [Act.put, List.setIfInBounds_toArray, List.set_cons_zero, List.set_cons_succ, i64_w, i32_w]
            rfl
          refine pure_ (i := 15) (N := some 64) (v := undef) (a' := ?_) #[true, true, true, true, true, true, true, true, true, true, true, true, true, true, true, true, false, false, false, false, false, false, false, false, false, false] rfl rfl (any_of HT_.out (by kernel_rfl)) (fun _ _ _ h => h) (Or.inr ⟨by rfl, rfl⟩) ?_ ?_
          rotate_left
          · simp only [Act.put, List.setIfInBounds_toArray, List.set_cons_zero, List.set_cons_succ, i64_w, i32_w]
            rfl
          refine one_ (i := 16) (N := some 65) #[true, true, true, true, true, true, true, true, true, true, true, true, true, true, true, true, true, false, false, false, false, false, false, false, false, false] rfl rfl (one_of HT_.out (by kernel_rfl)) (by decide) (fun K hK => ?_)
          refine skip_step (by rfl) ?_
          refine hK.out _ _ (hHeld) (fun hHeld => ?_)
          clear hK K
          refine norm_ (a' := ?_) ?_ ?_
          rotate_left
          · show Act.put _ (some 65) _ = _
            simp only [Act.put, List.setIfInBounds_toArray, List.set_cons_zero, List.set_cons_succ, i64_w, i32_w]
            rfl
          refine pure_ (i := 17) (N := some 66) (v := undef) (a' := ?_) #[true, true, true, true, true, true, true, true, true, true, true, true, true, true, true, true, true, true, false, false, false, false, false, false, false, false] rfl rfl (any_of HT_.out (by kernel_rfl)) (fun _ _ _ h => h) (Or.inr ⟨by rfl, rfl⟩) ?_ ?_
          rotate_left
          · simp only [Act.put, List.setIfInBounds_toArray, List.set_cons_zero, List.set_cons_succ, i64_w, i32_w]
            rfl
          refine pure_ (i := 18) (N := some 67) (v := ?_) (a' := ?_) #[true, true, true, true, true, true, true, true, true, true, true, true, true, true, true, true, true, true, true, false, false, false, false, false, false, false] rfl rfl (any_of HT_.out (by kernel_rfl)) (fun _ _ _ h => h) (Or.inl ⟨by rfl, ?_⟩) ?_ ?_
          rotate_left
          · intro w'
            go_simp
            with_reducible rfl
          rotate_left
          · simp only [Act.put, List.setIfInBounds_toArray, List.set_cons_zero, List.set_cons_succ, i64_w, i32_w]
            rfl
          refine pure_ (i := 19) (N := some 68) (v := ?_) (a' := ?_) #[true, true, true, true, true, true, true, true, true, true, true, true, true, true, true, true, true, true, true, true, false, false, false, false, false, false] rfl rfl (any_of HT_.out (by kernel_rfl)) (fun _ _ _ h => h) (Or.inl ⟨by rfl, ?_⟩) ?_ ?_
          rotate_left
          · intro w'
            go_simp
            with_reducible rfl
          rotate_left
          · simp only [Act.put, List.setIfInBounds_toArray, List.set_cons_zero, List.set_cons_succ, i64_w, i32_w]
            rfl
          refine pure_ (i := 20) (N := some 69) (v := undef) (a' := ?_) #[true, true, true, true, true, true, true, true, true, true, true, true, true, true, true, true, true, true, true, true, true, false, false, false, false, false] rfl rfl (any_of HT_.out (by kernel_rfl)) (fun _ _ _ h => h) (Or.inr ⟨by rfl, rfl⟩) ?_ ?_
          rotate_left
          · simp only [Act.put, List.setIfInBounds_toArray, List.set_cons_zero, List.set_cons_succ, i64_w, i32_w]
            rfl
          refine pure_ (i := 21) (N := some 70) (v := undef) (a' := ?_) #[true, true, true, true, true, true, true, true, true, true, true, true, true, true, true, true, true, true, true, true, true, true, false, false, false, false] rfl rfl (any_of HT_.out (by kernel_rfl)) (fun _ _ _ h => h) (Or.inr ⟨by rfl, rfl⟩) ?_ ?_
          rotate_left
          · simp only [Act.put, List.setIfInBounds_toArray, List.set_cons_zero, List.set_cons_succ, i64_w, i32_w]
            rfl
          refine pure_ (i := 22) (N := some 71) (v := undef) (a' := ?_) #[true, true, true, true, true, true, true, true, true, true, true, true, true, true, true, true, true, true, true, true, true, true, true, false, false, false] rfl rfl (any_of HT_.out (by kernel_rfl)) (fun _ _ _ h => h) (Or.inr ⟨by rfl, rfl⟩) ?_ ?_
          rotate_left
          · simp only [Act.put, List.setIfInBounds_toArray, List.set_cons_zero, List.set_cons_succ, i64_w, i32_w]
            rfl
          refine pure_ (i := 23) (N := some 72) (v := undef) (a' := ?_) #[true, true, true, true, true, true, true, true, true, true, true, true, true, true, true, true, true, true, true, true, true, true, true, true, false, false] rfl rfl (any_of HT_.out (by kernel_rfl)) (fun _ _ _ h => h) (Or.inr ⟨by rfl, rfl⟩) ?_ ?_
          rotate_left
          · simp only [Act.put, List.setIfInBounds_toArray, List.set_cons_zero, List.set_cons_succ, i64_w, i32_w]
            rfl
          refine pure_ (i := 24) (N := some 73) (v := undef) (a' := ?_) #[true, true, true, true, true, true, true, true, true, true, true, true, true, true, true, true, true, true, true, true, true, true, true, true, true, false] rfl rfl (any_of HT_.out (by kernel_rfl)) (fun _ _ _ h => h) (Or.inr ⟨by rfl, rfl⟩) ?_ ?_
          rotate_left
          · simp only [Act.put, List.setIfInBounds_toArray, List.set_cons_zero, List.set_cons_succ, i64_w, i32_w]
            rfl
          refine pure_ (i := 25) (N := some 74) (v := ?_) (a' := ?_) #[true, true, true, true, true, true, true, true, true, true, true, true, true, true, true, true, true, true, true, true, true, true, true, true, true, true] rfl rfl (any_of HT_.out (by kernel_rfl)) (fun _ _ _ h => h) (Or.inl ⟨by rfl, ?_⟩) ?_ ?_
          rotate_left
          · intro w'
            go_simp
            with_reducible rfl
          rotate_left
          · simp only [Act.put, List.setIfInBounds_toArray, List.set_cons_zero, List.set_cons_succ, i64_w, i32_w]
            rfl
          refine done_ (done_of HT_.out (by kernel_rfl)) ?_
          have B8 := Aside0.mk hHeld.1
          have BB := Aside0.mk hHeld.2.1
          have BR := Aside0.mk hHeld.2.2.1
          have HB := Aside0.mk hHeld.2.2.2
          try clear hHeld
          go_wp2_with fail
          go_roundg gk
          case measure => omega
          case rel =>
            have hw1 : wrap64 (x + 1) = x + 1 := by have := HP0.out; have := HQ0.out; unfold wrap64; omega
            exact ⟨x + 1, b0, b1, b2, b3, by first | rfl | (rw [hw1]), ⟨by have := HXK.out; omega⟩, ⟨HRD.out _ (HST.out.trans h.symm)⟩, BB, BR, HB⟩
        rw [if_pos q1] at h
        by_cases q2 : Int.tmod n0 2 = x
        case neg =>
          rw [if_neg q2] at h
          have q2' : (Int.tmod n0 2 == x) = false := beq_eq_false_iff_ne.mpr q2
          go_wp2_with fail
          refine start_ (n := 26) (S := fun w' => w'.heap[g8]? = some (.cells #[.int .i64 n0, .int .i64 n1, .int .i64 n2, .int .i64 n3] 81 (0, 0)) ∧ (w'.heap[g4]? = some (.cells #[.int .i64 b0, .int .i64 b1, .int .i64 b2, .int .i64 b3] 81 (0, 0)) ∧ w'.heap[g2]? = some (.cells #[.int .i64 0, .int .i64 0, .int .i64 0, .int .i64 0] 81 (0, 0)) ∧ Below w.heap.size w w')) (ds := []) #[false, false, false, false, false, false, false, false, false, false, false, false, false, false, false, false, false, false, false, false, false, false, false, false, false, false] (by kernel_rfl) rfl rfl (⟨blk_drew B8.out, blk_drew BB.out, blk_drew BR.out, below_drew1 HB.out⟩) (fun hHeld => ?_); refine with_tabW impl_bestSuper.tab8 impl_bestSuper.bits8 (fun HT_ HW_ => ?_)
          refine take_ (i := 0) (N := some 49) (v := ?_) (a' := ?_) #[true, false, false, false, false, false, false, false, false, false, false, false, false, false, false, false, false, false, false, false, false, false, false, false, false, false] rfl rfl (take_ofW HT_.out HW_.out (by kernel_rfl)) (fun _ _ _ h => h) (Or.inl ⟨by rfl, ?_⟩) hHeld ?_ ?_
          rotate_left
          · intro w' s0
            have hs0 : w'.cell? ⟨g8, 0, none⟩ = some (.int .i64 n0) := (blk_cell s0.1 0).trans rfl
            have hs1 : w'.cell? ⟨g8, 1, none⟩ = some (.int .i64 n1) := (blk_cell s0.1 1).trans rfl
            have hs2 : w'.cell? ⟨g8, 2, none⟩ = some (.int .i64 n2) := (blk_cell s0.1 2).trans rfl
            have hs3 : w'.cell? ⟨g8, 3, none⟩ = some (.int .i64 n3) := (blk_cell s0.1 3).trans rfl
            clear s0
            go_simp
            with_reducible rfl
          rotate_left
          · simp only [Act.put, List.setIfInBounds_toArray, List.set_cons_zero, List.set_cons_succ, i64_w, i32_w]
            rfl
          refine one_ (i := 1) (N := some 50) #[true, true, false, false, false, false, false, false, false, false, false, false, false, false, false, false, false, false, false, false, false, false, false, false, false, false] rfl rfl (one_of HT_.out (by kernel_rfl)) (by decide) (fun K hK => ?_)
          refine goes_ Try.func151 (by kernel_rfl) rfl #[.agg #[.int .i64 n0, .int .i64 n1, .int .i64 n2, .int .i64 n3]] (by rfl) rfl rfl (by first | rfl | (simp only [List.map_toArray, List.map_cons, List.map_nil]; first | done | rfl)) ?_
          refine (impl_Super_valid.calls n0 n1 n2 n3 true _ q1).mono ?_
          rintro e w13 ⟨rfl, hb⟩
          refine ⟨_, rfl, ?_⟩
          have S13 := Aside0.mk (show (w13.heap[g8]? = some (.cells #[.int .i64 n0, .int .i64 n1, .int .i64 n2, .int .i64 n3] 81 (0, 0)) ∧ (w13.heap[g4]? = some (.cells #[.int .i64 b0, .int .i64 b1, .int .i64 b2, .int .i64 b3] 81 (0, 0)) ∧ w13.heap[g2]? = some (.cells #[.int .i64 0, .int .i64 0, .int .i64 0, .int .i64 0] 81 (0, 0)) ∧ Below w.heap.size w w13)) from ⟨blk_below hHeld.1 hb, blk_below hHeld.2.1 hb, blk_below hHeld.2.2.1 hb, below_step hHeld.2.2.2 hb⟩)
          clear hb hHeld
          refine hK.out _ _ (S13.out) (fun hHeld => ?_)
          clear hK K
          refine norm_ (a' := ?_) ?_ ?_
          rotate_left
          · show Act.put _ (some 50) _ = _
            simp only [Act.put, List.setIfInBounds_toArray, List.set_cons_zero, List.set_cons_succ, i64_w, i32_w]
            rfl
          refine pure_ (i := 2) (N := some 51) (v := ?_) (a' := ?_) #[true, true, true, false, false, false, false, false, false, false, false, false, false, false, false, false, false, false, false, false, false, false, false, false, false, false] rfl rfl (any_of HT_.out (by kernel_rfl)) (fun _ _ _ h => h) (Or.inl ⟨by rfl, ?_⟩) ?_ ?_
          rotate_left
          · intro w'
            go_simp
            with_reducible rfl
          rotate_left
          · simp only [Act.put, List.setIfInBounds_toArray, List.set_cons_zero, List.set_cons_succ, i64_w, i32_w]
            rfl
          refine pure_ (i := 3) (N := some 52) (v := ?_) (a' := ?_) #[true, true, true, true, false, false, false, false, false, false, false, false, false, false, false, false, false, false, false, false, false, false, false, false, false, false] rfl rfl (any_of HT_.out (by kernel_rfl)) (fun _ _ _ h => h) (Or.inl ⟨by rfl, ?_⟩) ?_ ?_
          rotate_left
          · intro w'
            go_simp
            with_reducible rfl
          rotate_left
          · simp only [Act.put, List.setIfInBounds_toArray, List.set_cons_zero, List.set_cons_succ, i64_w, i32_w]
            rfl
          refine take_ (i := 4) (N := some 53) (v := ?_) (a' := ?_) #[true, true, true, true, true, false, false, false, false, false, false, false, false, false, false, false, false, false, false, false, false, false, false, false, false, false] rfl rfl (take_ofW HT_.out HW_.out (by kernel_rfl)) (fun _ _ _ h => h) (Or.inl ⟨by rfl, ?_⟩) hHeld ?_ ?_
          rotate_left
          · intro w' s0
            have hs0 : w'.cell? ⟨g8, 0, none⟩ = some (.int .i64 n0) := (blk_cell s0.1 0).trans rfl
            have hs1 : w'.cell? ⟨g8, 1, none⟩ = some (.int .i64 n1) := (blk_cell s0.1 1).trans rfl
            have hs2 : w'.cell? ⟨g8, 2, none⟩ = some (.int .i64 n2) := (blk_cell s0.1 2).trans rfl
            have hs3 : w'.cell? ⟨g8, 3, none⟩ = some (.int .i64 n3) := (blk_cell s0.1 3).trans rfl
            clear s0
            go_simp
            with_reducible rfl
          rotate_left
          · simp only [Act.put, List.setIfInBounds_toArray, List.set_cons_zero, List.set_cons_succ, i64_w, i32_w]
            rfl
          refine pure_ (i := 5) (N := some 54) (v := ?_) (a' := ?_) #[true, true, true, true, true, true, false, false, false, false, false, false, false, false, false, false, false, false, false, false, false, false, false, false, false, false] rfl rfl (any_of HT_.out (by kernel_rfl)) (fun _ _ _ h => h) (Or.inl ⟨by rfl, ?_⟩) ?_ ?_
          rotate_left
          · intro w'
            go_simp
            with_reducible rfl
          rotate_left
          · simp only [Act.put, List.setIfInBounds_toArray, List.set_cons_zero, List.set_cons_succ, i64_w, i32_w]
            rfl
          refine pure_ (i := 6) (N := some 55) (v := ?_) (a' := ?_) #[true, true, true, true, true, true, true, false, false, false, false, false, false, false, false, false, false, false, false, false, false, false, false, false, false, false] rfl rfl (any_of HT_.out (by kernel_rfl)) (fun _ _ _ h => h) (Or.inl ⟨by rfl, ?_⟩) ?_ ?_
          rotate_left
          · intro w'
            go_simp
            with_reducible rfl
          rotate_left
          · simp only [Act.put, List.setIfInBounds_toArray, List.set_cons_zero, List.set_cons_succ, i64_w, i32_w]
            rfl
          refine pure_ (i := 7) (N := some 56) (v := ?_) (a' := ?_) #[true, true, true, true, true, true, true, true, false, false, false, false, false, false, false, false, false, false, false, false, false, false, false, false, false, false] rfl rfl (any_of HT_.out (by kernel_rfl)) (fun _ _ _ h => h) (Or.inl ⟨by rfl, ?_⟩) ?_ ?_
          rotate_left
          · intro w'
            go_simp
            with_reducible rfl
          rotate_left
          · simp only [Act.put, List.setIfInBounds_toArray, List.set_cons_zero, List.set_cons_succ, i64_w, i32_w]
            rfl
          refine pure_ (i := 8) (N := some 57) (v := ?_) (a' := ?_) #[true, true, true, true, true, true, true, true, true, false, false, false, false, false, false, false, false, false, false, false, false, false, false, false, false, false] rfl rfl (any_of HT_.out (by kernel_rfl)) (fun _ _ _ h => h) (Or.inl ⟨by rfl, ?_⟩) ?_ ?_
          rotate_left
          · intro w'
            go_simp
            with_reducible rfl
          rotate_left
          · simp only [Act.put, List.setIfInBounds_toArray, List.set_cons_zero, List.set_cons_succ, i64_w, i32_w]
            rfl
          refine pure_ (i := 9) (N := some 58) (v := ?_) (a' := ?_) #[true, true, true, true, true, true, true, true, true, true, false, false, false, false, false, false, false, false, false, false, false, false, false, false, false, false] rfl rfl (any_of HT_.out (by kernel_rfl)) (fun _ _ _ h => h) (Or.inl ⟨by rfl, ?_⟩) ?_ ?_
          rotate_left
          · intro w'
            go_simp
            with_reducible rfl
          rotate_left
          · simp only [Act.put, List.setIfInBounds_toArray, List.set_cons_zero, List.set_cons_succ, i64_w, i32_w]
            rfl
          refine pure_ (i := 10) (N := some 59) (v := undef) (a' := ?_) #[true, true, true, true, true, true, true, true, true, true, true, false, false, false, false, false, false, false, false, false, false, false, false, false, false, false] rfl rfl (any_of HT_.out (by kernel_rfl)) (fun _ _ _ h => h) (Or.inr ⟨by rfl, rfl⟩) ?_ ?_
          rotate_left
          · simp only [Act.put, List.setIfInBounds_toArray, List.set_cons_zero, List.set_cons_succ, i64_w, i32_w]
            rfl
          refine pure_ (i := 11) (N := some 60) (v := undef) (a' := ?_) #[true, true, true, true, true, true, true, true, true, true, true, true, false, false, false, false, false, false, false, false, false, false, false, false, false, false] rfl rfl (any_of HT_.out (by kernel_rfl)) (fun _ _ _ h => h) (Or.inr ⟨by rfl, rfl⟩) ?_ ?_
          rotate_left
          · simp only [Act.put, List.setIfInBounds_toArray, List.set_cons_zero, List.set_cons_succ, i64_w, i32_w]
            rfl
          refine pure_ (i := 12) (N := some 61) (v := undef) (a' := ?_) #[true, true, true, true, true, true, true, true, true, true, true, true, true, false, false, false, false, false, false, false, false, false, false, false, false, false] rfl rfl (any_of HT_.out (by kernel_rfl)) (fun _ _ _ h => h) (Or.inr ⟨by rfl, rfl⟩) ?_ ?_
          rotate_left
          · simp only [Act.put, List.setIfInBounds_toArray, List.set_cons_zero, List.set_cons_succ, i64_w, i32_w]
            rfl
          refine pure_ (i := 13) (N := some 62) (v := undef) (a' := ?_) #[true, true, true, true, true, true, true, true, true, true, true, true, true, true, false, false, false, false, false, false, false, false, false, false, false, false] rfl rfl (any_of HT_.out (by kernel_rfl)) (fun _ _ _ h => h) (Or.inr ⟨by rfl, rfl⟩) ?_ ?_
          rotate_left
          · simp only [Act.put, List.setIfInBounds_toArray, List.set_cons_zero, List.set_cons_succ, i64_w, i32_w]
            rfl
          refine pure_ (i := 14) (N := some 63) (v := undef) (a' := ?_) #[true, true, true, true, true, true, true, true, true, true, true, true, true, true, true, false, false, false, false, false, false, false, false, false, false, false] rfl rfl (any_of HT_.out (by kernel_rfl)) (fun _ _ _ h => h) (Or.inr ⟨by rfl, rfl⟩) ?_ ?_
          rotate_left
          · simp only [Act.put, List.setIfInBounds_toArray, List.set_cons_zero, List.set_cons_succ, i64_w, i32_w]
            rfl
          refine pure_ (i := 15) (N := some 64) (v := undef) (a' := ?_) #[true, true, true, true, true, true, true, true, true, true, true, true, true, true, true, true, false, false, false, false, false, false, false, false, false, false] rfl rfl (any_of HT_.out (by kernel_rfl)) (fun _ _ _ h => h) (Or.inr ⟨by rfl, rfl⟩) ?_ ?_
          rotate_left
          · simp only [Act.put, List.setIfInBounds_toArray, List.set_cons_zero, List.set_cons_succ, i64_w, i32_w]
            rfl
          refine one_ (i := 16) (N := some 65) #[true, true, true, true, true, true, true, true, true, true, true, true, true, true, true, true, true, false, false, false, false, false, false, false, false, false] rfl rfl (one_of HT_.out (by kernel_rfl)) (by decide) (fun K hK => ?_)
          refine skip_step (by rfl) ?_
          refine hK.out _ _ (hHeld) (fun hHeld => ?_)
          clear hK K
          refine norm_ (a' := ?_) ?_ ?_
          rotate_left
          · show Act.put _ (some 65) _ = _
            simp only [Act.put, List.setIfInBounds_toArray, List.set_cons_zero, List.set_cons_succ, i64_w, i32_w]
            rfl
          refine pure_ (i := 17) (N := some 66) (v := undef) (a' := ?_) #[true, true, true, true, true, true, true, true, true, true, true, true, true, true, true, true, true, true, false, false, false, false, false, false, false, false] rfl rfl (any_of HT_.out (by kernel_rfl)) (fun _ _ _ h => h) (Or.inr ⟨by rfl, rfl⟩) ?_ ?_
          rotate_left
          · simp only [Act.put, List.setIfInBounds_toArray, List.set_cons_zero, List.set_cons_succ, i64_w, i32_w]
            rfl
          refine pure_ (i := 18) (N := some 67) (v := ?_) (a' := ?_) #[true, true, true, true, true, true, true, true, true, true, true, true, true, true, true, true, true, true, true, false, false, false, false, false, false, false] rfl rfl (any_of HT_.out (by kernel_rfl)) (fun _ _ _ h => h) (Or.inl ⟨by rfl, ?_⟩) ?_ ?_
          rotate_left
          · intro w'
            go_simp
            with_reducible rfl
          rotate_left
          · simp only [Act.put, List.setIfInBounds_toArray, List.set_cons_zero, List.set_cons_succ, i64_w, i32_w]
            rfl
          refine pure_ (i := 19) (N := some 68) (v := ?_) (a' := ?_) #[true, true, true, true, true, true, true, true, true, true, true, true, true, true, true, true, true, true, true, true, false, false, false, false, false, false] rfl rfl (any_of HT_.out (by kernel_rfl)) (fun _ _ _ h => h) (Or.inl ⟨by rfl, ?_⟩) ?_ ?_
          rotate_left
          · intro w'
            go_simp
            with_reducible rfl
          rotate_left
          · simp only [Act.put, List.setIfInBounds_toArray, List.set_cons_zero, List.set_cons_succ, i64_w, i32_w]
            rfl
          refine pure_ (i := 20) (N := some 69) (v := undef) (a' := ?_) #[true, true, true, true, true, true, true, true, true, true, true, true, true, true, true, true, true, true, true, true, true, false, false, false, false, false] rfl rfl (any_of HT_.out (by kernel_rfl)) (fun _ _ _ h => h) (Or.inr ⟨by rfl, rfl⟩) ?_ ?_
          rotate_left
          · simp only [Act.put, List.setIfInBounds_toArray, List.set_cons_zero, List.set_cons_succ, i64_w, i32_w]
            rfl
          refine pure_ (i := 21) (N := some 70) (v := undef) (a' := ?_) #[true, true, true, true, true, true, true, true, true, true, true, true, true, true, true, true, true, true, true, true, true, true, false, false, false, false] rfl rfl (any_of HT_.out (by kernel_rfl)) (fun _ _ _ h => h) (Or.inr ⟨by rfl, rfl⟩) ?_ ?_
          rotate_left
          · simp only [Act.put, List.setIfInBounds_toArray, List.set_cons_zero, List.set_cons_succ, i64_w, i32_w]
            rfl
          refine pure_ (i := 22) (N := some 71) (v := undef) (a' := ?_) #[true, true, true, true, true, true, true, true, true, true, true, true, true, true, true, true, true, true, true, true, true, true, true, false, false, false] rfl rfl (any_of HT_.out (by kernel_rfl)) (fun _ _ _ h => h) (Or.inr ⟨by rfl, rfl⟩) ?_ ?_
          rotate_left
          · simp only [Act.put, List.setIfInBounds_toArray, List.set_cons_zero, List.set_cons_succ, i64_w, i32_w]
            rfl
          refine pure_ (i := 23) (N := some 72) (v := undef) (a' := ?_) #[true, true, true, true, true, true, true, true, true, true, true, true, true, true, true, true, true, true, true, true, true, true, true, true, false, false] rfl rfl (any_of HT_.out (by kernel_rfl)) (fun _ _ _ h => h) (Or.inr ⟨by rfl, rfl⟩) ?_ ?_
          rotate_left
          · simp only [Act.put, List.setIfInBounds_toArray, List.set_cons_zero, List.set_cons_succ, i64_w, i32_w]
            rfl
          refine pure_ (i := 24) (N := some 73) (v := undef) (a' := ?_) #[true, true, true, true, true, true, true, true, true, true, true, true, true, true, true, true, true, true, true, true, true, true, true, true, true, false] rfl rfl (any_of HT_.out (by kernel_rfl)) (fun _ _ _ h => h) (Or.inr ⟨by rfl, rfl⟩) ?_ ?_
          rotate_left
          · simp only [Act.put, List.setIfInBounds_toArray, List.set_cons_zero, List.set_cons_succ, i64_w, i32_w]
            rfl
          refine pure_ (i := 25) (N := some 74) (v := ?_) (a' := ?_) #[true, true, true, true, true, true, true, true, true, true, true, true, true, true, true, true, true, true, true, true, true, true, true, true, true, true] rfl rfl (any_of HT_.out (by kernel_rfl)) (fun _ _ _ h => h) (Or.inl ⟨by rfl, ?_⟩) ?_ ?_
          rotate_left
          · intro w'
            go_simp
            with_reducible rfl
          rotate_left
          · simp only [Act.put, List.setIfInBounds_toArray, List.set_cons_zero, List.set_cons_succ, i64_w, i32_w]
            rfl
          refine done_ (done_of HT_.out (by kernel_rfl)) ?_
          have B8 := Aside0.mk hHeld.1
          have BB := Aside0.mk hHeld.2.1
          have BR := Aside0.mk hHeld.2.2.1
          have HB := Aside0.mk hHeld.2.2.2
          try clear hHeld
          go_wp2_with fail
          go_roundg gk
          case measure => omega
          case rel =>
            have hw1 : wrap64 (x + 1) = x + 1 := by have := HP0.out; have := HQ0.out; unfold wrap64; omega
            exact ⟨x + 1, b0, b1, b2, b3, by first | rfl | (rw [hw1]), ⟨by have := HXK.out; omega⟩, ⟨HRD.out _ (HST.out.trans h.symm)⟩, BB, BR, HB⟩
        rw [if_pos q2] at h
        have q2' : (Int.tmod n0 2 == x) = true := beq_iff_eq.mpr q2
        by_cases q3 : n2 ≤ (safe.length : Int) / 4
        case neg =>
          rw [if_neg q3] at h
          have q3' : decide (n2 ≤ (safe.length : Int) / 4) = false := decide_eq_false q3
          go_wp2_with fail
          refine start_ (n := 26) (S := fun w' => w'.heap[g8]? = some (.cells #[.int .i64 n0, .int .i64 n1, .int .i64 n2, .int .i64 n3] 81 (0, 0)) ∧ (w'.heap[g4]? = some (.cells #[.int .i64 b0, .int .i64 b1, .int .i64 b2, .int .i64 b3] 81 (0, 0)) ∧ w'.heap[g2]? = some (.cells #[.int .i64 0, .int .i64 0, .int .i64 0, .int .i64 0] 81 (0, 0)) ∧ Below w.heap.size w w')) (ds := []) #[false, false, false, false, false, false, false, false, false, false, false, false, false, false, false, false, false, false, false, false, false, false, false, false, false, false] (by kernel_rfl) rfl rfl (⟨blk_drew B8.out, blk_drew BB.out, blk_drew BR.out, below_drew1 HB.out⟩) (fun hHeld => ?_); refine with_tabW impl_bestSuper.tab8 impl_bestSuper.bits8 (fun HT_ HW_ => ?_)
          refine take_ (i := 0) (N := some 49) (v := ?_) (a' := ?_) #[true, false, false, false, false, false, false, false, false, false, false, false, false, false, false, false, false, false, false, false, false, false, false, false, false, false] rfl rfl (take_ofW HT_.out HW_.out (by kernel_rfl)) (fun _ _ _ h => h) (Or.inl ⟨by rfl, ?_⟩) hHeld ?_ ?_
          rotate_left
          · intro w' s0
            have hs0 : w'.cell? ⟨g8, 0, none⟩ = some (.int .i64 n0) := (blk_cell s0.1 0).trans rfl
            have hs1 : w'.cell? ⟨g8, 1, none⟩ = some (.int .i64 n1) := (blk_cell s0.1 1).trans rfl
            have hs2 : w'.cell? ⟨g8, 2, none⟩ = some (.int .i64 n2) := (blk_cell s0.1 2).trans rfl
            have hs3 : w'.cell? ⟨g8, 3, none⟩ = some (.int .i64 n3) := (blk_cell s0.1 3).trans rfl
            clear s0
            go_simp
            with_reducible rfl
          rotate_left
          · simp only [Act.put, List.setIfInBounds_toArray, List.set_cons_zero, List.set_cons_succ, i64_w, i32_w]
            rfl
          refine one_ (i := 1) (N := some 50) #[true, true, false, false, false, false, false, false, false, false, false, false, false, false, false, false, false, false, false, false, false, false, false, false, false, false] rfl rfl (one_of HT_.out (by kernel_rfl)) (by decide) (fun K hK => ?_)
          refine goes_ Try.func151 (by kernel_rfl) rfl #[.agg #[.int .i64 n0, .int .i64 n1, .int .i64 n2, .int .i64 n3]] (by rfl) rfl rfl (by first | rfl | (simp only [List.map_toArray, List.map_cons, List.map_nil]; first | done | rfl)) ?_
          refine (impl_Super_valid.calls n0 n1 n2 n3 true _ q1).mono ?_
          rintro e w13 ⟨rfl, hb⟩
          refine ⟨_, rfl, ?_⟩
          have S13 := Aside0.mk (show (w13.heap[g8]? = some (.cells #[.int .i64 n0, .int .i64 n1, .int .i64 n2, .int .i64 n3] 81 (0, 0)) ∧ (w13.heap[g4]? = some (.cells #[.int .i64 b0, .int .i64 b1, .int .i64 b2, .int .i64 b3] 81 (0, 0)) ∧ w13.heap[g2]? = some (.cells #[.int .i64 0, .int .i64 0, .int .i64 0, .int .i64 0] 81 (0, 0)) ∧ Below w.heap.size w w13)) from ⟨blk_below hHeld.1 hb, blk_below hHeld.2.1 hb, blk_below hHeld.2.2.1 hb, below_step hHeld.2.2.2 hb⟩)
          clear hb hHeld
          refine hK.out _ _ (S13.out) (fun hHeld => ?_)
          clear hK K
          refine norm_ (a' := ?_) ?_ ?_
          rotate_left
          · show Act.put _ (some 50) _ = _
            simp only [Act.put, List.setIfInBounds_toArray, List.set_cons_zero, List.set_cons_succ, i64_w, i32_w]
            rfl
          refine pure_ (i := 2) (N := some 51) (v := ?_) (a' := ?_) #[true, true, true, false, false, false, false, false, false, false, false, false, false, false, false, false, false, false, false, false, false, false, false, false, false, false] rfl rfl (any_of HT_.out (by kernel_rfl)) (fun _ _ _ h => h) (Or.inl ⟨by rfl, ?_⟩) ?_ ?_
          rotate_left
          · intro w'
            go_simp
            with_reducible rfl
          rotate_left
          · simp only [Act.put, List.setIfInBounds_toArray, List.set_cons_zero, List.set_cons_succ, i64_w, i32_w]
            rfl
          refine pure_ (i := 3) (N := some 52) (v := ?_) (a' := ?_) #[true, true, true, true, false, false, false, false, false, false, false, false, false, false, false, false, false, false, false, false, false, false, false, false, false, false] rfl rfl (any_of HT_.out (by kernel_rfl)) (fun _ _ _ h => h) (Or.inl ⟨by rfl, ?_⟩) ?_ ?_
          rotate_left
          · intro w'
            go_simp
            with_reducible rfl
          rotate_left
          · simp only [Act.put, List.setIfInBounds_toArray, List.set_cons_zero, List.set_cons_succ, i64_w, i32_w]
            rfl
          refine take_ (i := 4) (N := some 53) (v := ?_) (a' := ?_) #[true, true, true, true, true, false, false, false, false, false, false, false, false, false, false, false, false, false, false, false, false, false, false, false, false, false] rfl rfl (take_ofW HT_.out HW_.out (by kernel_rfl)) (fun _ _ _ h => h) (Or.inl ⟨by rfl, ?_⟩) hHeld ?_ ?_
          rotate_left
          · intro w' s0
            have hs0 : w'.cell? ⟨g8, 0, none⟩ = some (.int .i64 n0) := (blk_cell s0.1 0).trans rfl
            have hs1 : w'.cell? ⟨g8, 1, none⟩ = some (.int .i64 n1) := (blk_cell s0.1 1).trans rfl
            have hs2 : w'.cell? ⟨g8, 2, none⟩ = some (.int .i64 n2) := (blk_cell s0.1 2).trans rfl
            have hs3 : w'.cell? ⟨g8, 3, none⟩ = some (.int .i64 n3) := (blk_cell s0.1 3).trans rfl
            clear s0
            go_simp
            with_reducible rfl
          rotate_left
          · simp only [Act.put, List.setIfInBounds_toArray, List.set_cons_zero, List.set_cons_succ, i64_w, i32_w]
            rfl
          refine pure_ (i := 5) (N := some 54) (v := ?_) (a' := ?_) #[true, true, true, true, true, true, false, false, false, false, false, false, false, false, false, false, false, false, false, false, false, false, false, false, false, false] rfl rfl (any_of HT_.out (by kernel_rfl)) (fun _ _ _ h => h) (Or.inl ⟨by rfl, ?_⟩) ?_ ?_
          rotate_left
          · intro w'
            go_simp
            with_reducible rfl
          rotate_left
          · simp only [Act.put, List.setIfInBounds_toArray, List.set_cons_zero, List.set_cons_succ, i64_w, i32_w]
            rfl
          refine pure_ (i := 6) (N := some 55) (v := ?_) (a' := ?_) #[true, true, true, true, true, true, true, false, false, false, false, false, false, false, false, false, false, false, false, false, false, false, false, false, false, false] rfl rfl (any_of HT_.out (by kernel_rfl)) (fun _ _ _ h => h) (Or.inl ⟨by rfl, ?_⟩) ?_ ?_
          rotate_left
          · intro w'
            go_simp
            with_reducible rfl
          rotate_left
          · simp only [Act.put, List.setIfInBounds_toArray, List.set_cons_zero, List.set_cons_succ, i64_w, i32_w]
            rfl
          refine pure_ (i := 7) (N := some 56) (v := ?_) (a' := ?_) #[true, true, true, true, true, true, true, true, false, false, false, false, false, false, false, false, false, false, false, false, false, false, false, false, false, false] rfl rfl (any_of HT_.out (by kernel_rfl)) (fun _ _ _ h => h) (Or.inl ⟨by rfl, ?_⟩) ?_ ?_
          rotate_left
          · intro w'
            go_simp
            with_reducible rfl
          rotate_left
          · simp only [Act.put, List.setIfInBounds_toArray, List.set_cons_zero, List.set_cons_succ, i64_w, i32_w]
            rfl
          refine pure_ (i := 8) (N := some 57) (v := ?_) (a' := ?_) #[true, true, true, true, true, true, true, true, true, false, false, false, false, false, false, false, false, false, false, false, false, false, false, false, false, false] rfl rfl (any_of HT_.out (by kernel_rfl)) (fun _ _ _ h => h) (Or.inl ⟨by rfl, ?_⟩) ?_ ?_
          rotate_left
          · intro w'
            go_simp
            with_reducible rfl
          rotate_left
          · simp only [Act.put, List.setIfInBounds_toArray, List.set_cons_zero, List.set_cons_succ, i64_w, i32_w]
            rfl
          refine pure_ (i := 9) (N := some 58) (v := ?_) (a' := ?_) #[true, true, true, true, true, true, true, true, true, true, false, false, false, false, false, false, false, false, false, false, false, false, false, false, false, false] rfl rfl (any_of HT_.out (by kernel_rfl)) (fun _ _ _ h => h) (Or.inl ⟨by rfl, ?_⟩) ?_ ?_
          rotate_left
          · intro w'
            go_simp
            with_reducible rfl
          rotate_left
          · simp only [Act.put, List.setIfInBounds_toArray, List.set_cons_zero, List.set_cons_succ, i64_w, i32_w]
            rfl
          refine pure_ (i := 10) (N := some 59) (v := ?_) (a' := ?_) #[true, true, true, true, true, true, true, true, true, true, true, false, false, false, false, false, false, false, false, false, false, false, false, false, false, false] rfl rfl (any_of HT_.out (by kernel_rfl)) (fun _ _ _ h => h) (Or.inl ⟨by rfl, ?_⟩) ?_ ?_
          rotate_left
          · intro w'
            go_simp
            with_reducible rfl
          rotate_left
          · simp only [Act.put, List.setIfInBounds_toArray, List.set_cons_zero, List.set_cons_succ, i64_w, i32_w]
            rfl
          refine take_ (i := 11) (N := some 60) (v := ?_) (a' := ?_) #[true, true, true, true, true, true, true, true, true, true, true, true, false, false, false, false, false, false, false, false, false, false, false, false, false, false] rfl rfl (take_ofW HT_.out HW_.out (by kernel_rfl)) (fun _ _ _ h => h) (Or.inl ⟨by rfl, ?_⟩) hHeld ?_ ?_
          rotate_left
          · intro w' s0
            have hs0 : w'.cell? ⟨g8, 0, none⟩ = some (.int .i64 n0) := (blk_cell s0.1 0).trans rfl
            have hs1 : w'.cell? ⟨g8, 1, none⟩ = some (.int .i64 n1) := (blk_cell s0.1 1).trans rfl
            have hs2 : w'.cell? ⟨g8, 2, none⟩ = some (.int .i64 n2) := (blk_cell s0.1 2).trans rfl
            have hs3 : w'.cell? ⟨g8, 3, none⟩ = some (.int .i64 n3) := (blk_cell s0.1 3).trans rfl
            clear s0
            go_simp
            with_reducible rfl
          rotate_left
          · simp only [Act.put, List.setIfInBounds_toArray, List.set_cons_zero, List.set_cons_succ, i64_w, i32_w]
            rfl
          refine pure_ (i := 12) (N := some 61) (v := ?_) (a' := ?_) #[true, true, true, true, true, true, true, true, true, true, true, true, true, false, false, false, false, false, false, false, false, false, false, false, false, false] rfl rfl (any_of HT_.out (by kernel_rfl)) (fun _ _ _ h => h) (Or.inl ⟨by rfl, ?_⟩) ?_ ?_
          rotate_left
          · intro w'
            go_simp
            with_reducible rfl
          rotate_left
          · simp only [Act.put, List.setIfInBounds_toArray, List.set_cons_zero, List.set_cons_succ, i64_w, i32_w]
            rfl
          refine pure_ (i := 13) (N := some 62) (v := ?_) (a' := ?_) #[true, true, true, true, true, true, true, true, true, true, true, true, true, true, false, false, false, false, false, false, false, false, false, false, false, false] rfl rfl (any_of HT_.out (by kernel_rfl)) (fun _ _ _ h => h) (Or.inl ⟨by rfl, ?_⟩) ?_ ?_
          rotate_left
          · intro w'
            go_simp
            with_reducible rfl
          rotate_left
          · simp only [Act.put, List.setIfInBounds_toArray, List.set_cons_zero, List.set_cons_succ, i64_w, i32_w]
            rfl
          refine pure_ (i := 14) (N := some 63) (v := ?_) (a' := ?_) #[true, true, true, true, true, true, true, true, true, true, true, true, true, true, true, false, false, false, false, false, false, false, false, false, false, false] rfl rfl (any_of HT_.out (by kernel_rfl)) (fun _ _ _ h => h) (Or.inl ⟨by rfl, ?_⟩) ?_ ?_
          rotate_left
          · intro w'
            go_simp
            with_reducible rfl
          rotate_left
          · simp only [Act.put, List.setIfInBounds_toArray, List.set_cons_zero, List.set_cons_succ, i64_w, i32_w]
            rfl
          refine take_ (i := 15) (N := some 64) (v := ?_) (a' := ?_) #[true, true, true, true, true, true, true, true, true, true, true, true, true, true, true, true, false, false, false, false, false, false, false, false, false, false] rfl rfl (take_ofW HT_.out HW_.out (by kernel_rfl)) (fun _ _ _ h => h) (Or.inl ⟨by rfl, ?_⟩) hHeld ?_ ?_
          rotate_left
          · intro w' s0
            have hv2 : w'.cell? ⟨g, 2, none⟩ = some (.slice A0 safe.length c0) := (blk_cell (blk_below HD.out s0.2.2.2) 2).trans rfl
            have hv3 : w'.cell? ⟨g, 3, none⟩ = some (.slice A1 ps.length c1) := (blk_cell (blk_below HD.out s0.2.2.2) 3).trans rfl
            clear s0
            go_simp
            with_reducible rfl
          rotate_left
          · simp only [Act.put, List.setIfInBounds_toArray, List.set_cons_zero, List.set_cons_succ, i64_w, i32_w]
            rfl
          refine one_ (i := 16) (N := some 65) #[true, true, true, true, true, true, true, true, true, true, true, true, true, true, true, true, true, false, false, false, false, false, false, false, false, false] rfl rfl (one_of HT_.out (by kernel_rfl)) (by decide) (fun K hK => ?_)
          refine goes_ Try.func154 (by kernel_rfl) rfl #[.agg #[.slice A0 safe.length c0, .slice A1 ps.length c1]] (by rfl) rfl rfl (by first | rfl | (simp only [List.map_toArray, List.map_cons, List.map_nil]; first | done | rfl)) ?_
          refine (impl_Disk_pages.calls A0 c0 safe A1 c1 ps _ _ (Kd.C_below HR0.out (below_step HBW.out hHeld.2.2.2)) HC0.out (Kd.C_below HR1.out (below_step HBW.out hHeld.2.2.2)) HC1.out NP.out).mono ?_
          rintro e w14 ⟨rfl, hb⟩
          refine ⟨_, rfl, ?_⟩
          have S14 := Aside0.mk (show (w14.heap[g8]? = some (.cells #[.int .i64 n0, .int .i64 n1, .int .i64 n2, .int .i64 n3] 81 (0, 0)) ∧ (w14.heap[g4]? = some (.cells #[.int .i64 b0, .int .i64 b1, .int .i64 b2, .int .i64 b3] 81 (0, 0)) ∧ w14.heap[g2]? = some (.cells #[.int .i64 0, .int .i64 0, .int .i64 0, .int .i64 0] 81 (0, 0)) ∧ Below w.heap.size w w14)) from ⟨blk_below hHeld.1 hb, blk_below hHeld.2.1 hb, blk_below hHeld.2.2.1 hb, below_step hHeld.2.2.2 hb⟩)
          clear hb hHeld
          refine hK.out _ _ (S14.out) (fun hHeld => ?_)
          clear hK K
          refine norm_ (a' := ?_) ?_ ?_
          rotate_left
          · show Act.put _ (some 65) _ = _
            simp only [Act.put, List.setIfInBounds_toArray, List.set_cons_zero, List.set_cons_succ, i64_w, i32_w]
            rfl
          refine pure_ (i := 17) (N := some 66) (v := ?_) (a' := ?_) #[true, true, true, true, true, true, true, true, true, true, true, true, true, true, true, true, true, true, false, false, false, false, false, false, false, false] rfl rfl (any_of HT_.out (by kernel_rfl)) (fun _ _ _ h => h) (Or.inl ⟨by rfl, ?_⟩) ?_ ?_
          rotate_left
          · intro w'
            go_simp
            with_reducible rfl
          rotate_left
          · simp only [Act.put, List.setIfInBounds_toArray, List.set_cons_zero, List.set_cons_succ, i64_w, i32_w]
            rfl
          refine pure_ (i := 18) (N := some 67) (v := ?_) (a' := ?_) #[true, true, true, true, true, true, true, true, true, true, true, true, true, true, true, true, true, true, true, false, false, false, false, false, false, false] rfl rfl (any_of HT_.out (by kernel_rfl)) (fun _ _ _ h => h) (Or.inl ⟨by rfl, ?_⟩) ?_ ?_
          rotate_left
          · intro w'
            go_simp
            with_reducible rfl
          rotate_left
          · simp only [Act.put, List.setIfInBounds_toArray, List.set_cons_zero, List.set_cons_succ, i64_w, i32_w]
            rfl
          refine pure_ (i := 19) (N := some 68) (v := ?_) (a' := ?_) #[true, true, true, true, true, true, true, true, true, true, true, true, true, true, true, true, true, true, true, true, false, false, false, false, false, false] rfl rfl (any_of HT_.out (by kernel_rfl)) (fun _ _ _ h => h) (Or.inl ⟨by rfl, ?_⟩) ?_ ?_
          rotate_left
          · intro w'
            go_simp
            with_reducible rfl
          rotate_left
          · simp only [Act.put, List.setIfInBounds_toArray, List.set_cons_zero, List.set_cons_succ, i64_w, i32_w]
            rfl
          refine pure_ (i := 20) (N := some 69) (v := undef) (a' := ?_) #[true, true, true, true, true, true, true, true, true, true, true, true, true, true, true, true, true, true, true, true, true, false, false, false, false, false] rfl rfl (any_of HT_.out (by kernel_rfl)) (fun _ _ _ h => h) (Or.inr ⟨by rfl, rfl⟩) ?_ ?_
          rotate_left
          · simp only [Act.put, List.setIfInBounds_toArray, List.set_cons_zero, List.set_cons_succ, i64_w, i32_w]
            rfl
          refine pure_ (i := 21) (N := some 70) (v := undef) (a' := ?_) #[true, true, true, true, true, true, true, true, true, true, true, true, true, true, true, true, true, true, true, true, true, true, false, false, false, false] rfl rfl (any_of HT_.out (by kernel_rfl)) (fun _ _ _ h => h) (Or.inr ⟨by rfl, rfl⟩) ?_ ?_
          rotate_left
          · simp only [Act.put, List.setIfInBounds_toArray, List.set_cons_zero, List.set_cons_succ, i64_w, i32_w]
            rfl
          refine pure_ (i := 22) (N := some 71) (v := undef) (a' := ?_) #[true, true, true, true, true, true, true, true, true, true, true, true, true, true, true, true, true, true, true, true, true, true, true, false, false, false] rfl rfl (any_of HT_.out (by kernel_rfl)) (fun _ _ _ h => h) (Or.inr ⟨by rfl, rfl⟩) ?_ ?_
          rotate_left
          · simp only [Act.put, List.setIfInBounds_toArray, List.set_cons_zero, List.set_cons_succ, i64_w, i32_w]
            rfl
          refine pure_ (i := 23) (N := some 72) (v := undef) (a' := ?_) #[true, true, true, true, true, true, true, true, true, true, true, true, true, true, true, true, true, true, true, true, true, true, true, true, false, false] rfl rfl (any_of HT_.out (by kernel_rfl)) (fun _ _ _ h => h) (Or.inr ⟨by rfl, rfl⟩) ?_ ?_
          rotate_left
          · simp only [Act.put, List.setIfInBounds_toArray, List.set_cons_zero, List.set_cons_succ, i64_w, i32_w]
            rfl
          refine pure_ (i := 24) (N := some 73) (v := undef) (a' := ?_) #[true, true, true, true, true, true, true, true, true, true, true, true, true, true, true, true, true, true, true, true, true, true, true, true, true, false] rfl rfl (any_of HT_.out (by kernel_rfl)) (fun _ _ _ h => h) (Or.inr ⟨by rfl, rfl⟩) ?_ ?_
          rotate_left
          · simp only [Act.put, List.setIfInBounds_toArray, List.set_cons_zero, List.set_cons_succ, i64_w, i32_w]
            rfl
          refine pure_ (i := 25) (N := some 74) (v := ?_) (a' := ?_) #[true, true, true, true, true, true, true, true, true, true, true, true, true, true, true, true, true, true, true, true, true, true, true, true, true, true] rfl rfl (any_of HT_.out (by kernel_rfl)) (fun _ _ _ h => h) (Or.inl ⟨by rfl, ?_⟩) ?_ ?_
          rotate_left
          · intro w'
            go_simp
            with_reducible rfl
          rotate_left
          · simp only [Act.put, List.setIfInBounds_toArray, List.set_cons_zero, List.set_cons_succ, i64_w, i32_w]
            rfl
          refine done_ (done_of HT_.out (by kernel_rfl)) ?_
          have B8 := Aside0.mk hHeld.1
          have BB := Aside0.mk hHeld.2.1
          have BR := Aside0.mk hHeld.2.2.1
          have HB := Aside0.mk hHeld.2.2.2
          try clear hHeld
          go_wp2_with fail
          go_roundg gk
          case measure => omega
          case rel =>
            have hw1 : wrap64 (x + 1) = x + 1 := by have := HP0.out; have := HQ0.out; unfold wrap64; omega
            exact ⟨x + 1, b0, b1, b2, b3, by first | rfl | (rw [hw1]), ⟨by have := HXK.out; omega⟩, ⟨HRD.out _ (HST.out.trans h.symm)⟩, BB, BR, HB⟩
        rw [if_pos q3] at h
        have q3' : decide (n2 ≤ (safe.length : Int) / 4) = true := decide_eq_true q3
        by_cases q4 : b0 < n0
        case neg =>
          rw [if_neg q4] at h
          have q4' : decide (b0 < n0) = false := decide_eq_false q4
          go_wp2_with fail
          refine start_ (n := 26) (S := fun w' => w'.heap[g8]? = some (.cells #[.int .i64 n0, .int .i64 n1, .int .i64 n2, .int .i64 n3] 81 (0, 0)) ∧ (w'.heap[g4]? = some (.cells #[.int .i64 b0, .int .i64 b1, .int .i64 b2, .int .i64 b3] 81 (0, 0)) ∧ w'.heap[g2]? = some (.cells #[.int .i64 0, .int .i64 0, .int .i64 0, .int .i64 0] 81 (0, 0)) ∧ Below w.heap.size w w')) (ds := []) #[false, false, false, false, false, false, false, false, false, false, false, false, false, false, false, false, false, false, false, false, false, false, false, false, false, false] (by kernel_rfl) rfl rfl (⟨blk_drew B8.out, blk_drew BB.out, blk_drew BR.out, below_drew1 HB.out⟩) (fun hHeld => ?_); refine with_tabW impl_bestSuper.tab8 impl_bestSuper.bits8 (fun HT_ HW_ => ?_)
          refine take_ (i := 0) (N := some 49) (v := ?_) (a' := ?_) #[true, false, false, false, false, false, false, false, false, false, false, false, false, false, false, false, false, false, false, false, false, false, false, false, false, false] rfl rfl (take_ofW HT_.out HW_.out (by kernel_rfl)) (fun _ _ _ h => h) (Or.inl ⟨by rfl, ?_⟩) hHeld ?_ ?_
          rotate_left
          · intro w' s0
            have hs0 : w'.cell? ⟨g8, 0, none⟩ = some (.int .i64 n0) := (blk_cell s0.1 0).trans rfl
            have hs1 : w'.cell? ⟨g8, 1, none⟩ = some (.int .i64 n1) := (blk_cell s0.1 1).trans rfl
            have hs2 : w'.cell? ⟨g8, 2, none⟩ = some (.int .i64 n2) := (blk_cell s0.1 2).trans rfl
            have hs3 : w'.cell? ⟨g8, 3, none⟩ = some (.int .i64 n3) := (blk_cell s0.1 3).trans rfl
            clear s0
            go_simp
            with_reducible rfl
          rotate_left
          · simp only [Act.put, List.setIfInBounds_toArray, List.set_cons_zero, List.set_cons_succ, i64_w, i32_w]
            rfl
          refine one_ (i := 1) (N := some 50) #[true, true, false, false, false, false, false, false, false, false, false, false, false, false, false, false, false, false, false, false, false, false, false, false, false, false] rfl rfl (one_of HT_.out (by kernel_rfl)) (by decide) (fun K hK => ?_)
          refine goes_ Try.func151 (by kernel_rfl) rfl #[.agg #[.int .i64 n0, .int .i64 n1, .int .i64 n2, .int .i64 n3]] (by rfl) rfl rfl (by first | rfl | (simp only [List.map_toArray, List.map_cons, List.map_nil]; first | done | rfl)) ?_
          refine (impl_Super_valid.calls n0 n1 n2 n3 true _ q1).mono ?_
          rintro e w13 ⟨rfl, hb⟩
          refine ⟨_, rfl, ?_⟩
          have S13 := Aside0.mk (show (w13.heap[g8]? = some (.cells #[.int .i64 n0, .int .i64 n1, .int .i64 n2, .int .i64 n3] 81 (0, 0)) ∧ (w13.heap[g4]? = some (.cells #[.int .i64 b0, .int .i64 b1, .int .i64 b2, .int .i64 b3] 81 (0, 0)) ∧ w13.heap[g2]? = some (.cells #[.int .i64 0, .int .i64 0, .int .i64 0, .int .i64 0] 81 (0, 0)) ∧ Below w.heap.size w w13)) from ⟨blk_below hHeld.1 hb, blk_below hHeld.2.1 hb, blk_below hHeld.2.2.1 hb, below_step hHeld.2.2.2 hb⟩)
          clear hb hHeld
          refine hK.out _ _ (S13.out) (fun hHeld => ?_)
          clear hK K
          refine norm_ (a' := ?_) ?_ ?_
          rotate_left
          · show Act.put _ (some 50) _ = _
            simp only [Act.put, List.setIfInBounds_toArray, List.set_cons_zero, List.set_cons_succ, i64_w, i32_w]
            rfl
          refine pure_ (i := 2) (N := some 51) (v := ?_) (a' := ?_) #[true, true, true, false, false, false, false, false, false, false, false, false, false, false, false, false, false, false, false, false, false, false, false, false, false, false] rfl rfl (any_of HT_.out (by kernel_rfl)) (fun _ _ _ h => h) (Or.inl ⟨by rfl, ?_⟩) ?_ ?_
          rotate_left
          · intro w'
            go_simp
            with_reducible rfl
          rotate_left
          · simp only [Act.put, List.setIfInBounds_toArray, List.set_cons_zero, List.set_cons_succ, i64_w, i32_w]
            rfl
          refine pure_ (i := 3) (N := some 52) (v := ?_) (a' := ?_) #[true, true, true, true, false, false, false, false, false, false, false, false, false, false, false, false, false, false, false, false, false, false, false, false, false, false] rfl rfl (any_of HT_.out (by kernel_rfl)) (fun _ _ _ h => h) (Or.inl ⟨by rfl, ?_⟩) ?_ ?_
          rotate_left
          · intro w'
            go_simp
            with_reducible rfl
          rotate_left
          · simp only [Act.put, List.setIfInBounds_toArray, List.set_cons_zero, List.set_cons_succ, i64_w, i32_w]
            rfl
          refine take_ (i := 4) (N := some 53) (v := ?_) (a' := ?_) #[true, true, true, true, true, false, false, false, false, false, false, false, false, false, false, false, false, false, false, false, false, false, false, false, false, false] rfl rfl (take_ofW HT_.out HW_.out (by kernel_rfl)) (fun _ _ _ h => h) (Or.inl ⟨by rfl, ?_⟩) hHeld ?_ ?_
          rotate_left
          · intro w' s0
            have hs0 : w'.cell? ⟨g8, 0, none⟩ = some (.int .i64 n0) := (blk_cell s0.1 0).trans rfl
            have hs1 : w'.cell? ⟨g8, 1, none⟩ = some (.int .i64 n1) := (blk_cell s0.1 1).trans rfl
            have hs2 : w'.cell? ⟨g8, 2, none⟩ = some (.int .i64 n2) := (blk_cell s0.1 2).trans rfl
            have hs3 : w'.cell? ⟨g8, 3, none⟩ = some (.int .i64 n3) := (blk_cell s0.1 3).trans rfl
            clear s0
            go_simp
            with_reducible rfl
          rotate_left
          · simp only [Act.put, List.setIfInBounds_toArray, List.set_cons_zero, List.set_cons_succ, i64_w, i32_w]
            rfl
          refine pure_ (i := 5) (N := some 54) (v := ?_) (a' := ?_) #[true, true, true, true, true, true, false, false, false, false, false, false, false, false, false, false, false, false, false, false, false, false, false, false, false, false] rfl rfl (any_of HT_.out (by kernel_rfl)) (fun _ _ _ h => h) (Or.inl ⟨by rfl, ?_⟩) ?_ ?_
          rotate_left
          · intro w'
            go_simp
            with_reducible rfl
          rotate_left
          · simp only [Act.put, List.setIfInBounds_toArray, List.set_cons_zero, List.set_cons_succ, i64_w, i32_w]
            rfl
          refine pure_ (i := 6) (N := some 55) (v := ?_) (a' := ?_) #[true, true, true, true, true, true, true, false, false, false, false, false, false, false, false, false, false, false, false, false, false, false, false, false, false, false] rfl rfl (any_of HT_.out (by kernel_rfl)) (fun _ _ _ h => h) (Or.inl ⟨by rfl, ?_⟩) ?_ ?_
          rotate_left
          · intro w'
            go_simp
            with_reducible rfl
          rotate_left
          · simp only [Act.put, List.setIfInBounds_toArray, List.set_cons_zero, List.set_cons_succ, i64_w, i32_w]
            rfl
          refine pure_ (i := 7) (N := some 56) (v := ?_) (a' := ?_) #[true, true, true, true, true, true, true, true, false, false, false, false, false, false, false, false, false, false, false, false, false, false, false, false, false, false] rfl rfl (any_of HT_.out (by kernel_rfl)) (fun _ _ _ h => h) (Or.inl ⟨by rfl, ?_⟩) ?_ ?_
          rotate_left
          · intro w'
            go_simp
            with_reducible rfl
          rotate_left
          · simp only [Act.put, List.setIfInBounds_toArray, List.set_cons_zero, List.set_cons_succ, i64_w, i32_w]
            rfl
          refine pure_ (i := 8) (N := some 57) (v := ?_) (a' := ?_) #[true, true, true, true, true, true, true, true, true, false, false, false, false, false, false, false, false, false, false, false, false, false, false, false, false, false] rfl rfl (any_of HT_.out (by kernel_rfl)) (fun _ _ _ h => h) (Or.inl ⟨by rfl, ?_⟩) ?_ ?_
          rotate_left
          · intro w'
            go_simp
            with_reducible rfl
          rotate_left
          · simp only [Act.put, List.setIfInBounds_toArray, List.set_cons_zero, List.set_cons_succ, i64_w, i32_w]
            rfl
          refine pure_ (i := 9) (N := some 58) (v := ?_) (a' := ?_) #[true, true, true, true, true, true, true, true, true, true, false, false, false, false, false, false, false, false, false, false, false, false, false, false, false, false] rfl rfl (any_of HT_.out (by kernel_rfl)) (fun _ _ _ h => h) (Or.inl ⟨by rfl, ?_⟩) ?_ ?_
          rotate_left
          · intro w'
            go_simp
            with_reducible rfl
          rotate_left
          · simp only [Act.put, List.setIfInBounds_toArray, List.set_cons_zero, List.set_cons_succ, i64_w, i32_w]
            rfl
          refine pure_ (i := 10) (N := some 59) (v := ?_) (a' := ?_) #[true, true, true, true, true, true, true, true, true, true, true, false, false, false, false, false, false, false, false, false, false, false, false, false, false, false] rfl rfl (any_of HT_.out (by kernel_rfl)) (fun _ _ _ h => h) (Or.inl ⟨by rfl, ?_⟩) ?_ ?_
          rotate_left
          · intro w'
            go_simp
            with_reducible rfl
          rotate_left
          · simp only [Act.put, List.setIfInBounds_toArray, List.set_cons_zero, List.set_cons_succ, i64_w, i32_w]
            rfl
          refine take_ (i := 11) (N := some 60) (v := ?_) (a' := ?_) #[true, true, true, true, true, true, true, true, true, true, true, true, false, false, false, false, false, false, false, false, false, false, false, false, false, false] rfl rfl (take_ofW HT_.out HW_.out (by kernel_rfl)) (fun _ _ _ h => h) (Or.inl ⟨by rfl, ?_⟩) hHeld ?_ ?_
          rotate_left
          · intro w' s0
            have hs0 : w'.cell? ⟨g8, 0, none⟩ = some (.int .i64 n0) := (blk_cell s0.1 0).trans rfl
            have hs1 : w'.cell? ⟨g8, 1, none⟩ = some (.int .i64 n1) := (blk_cell s0.1 1).trans rfl
            have hs2 : w'.cell? ⟨g8, 2, none⟩ = some (.int .i64 n2) := (blk_cell s0.1 2).trans rfl
            have hs3 : w'.cell? ⟨g8, 3, none⟩ = some (.int .i64 n3) := (blk_cell s0.1 3).trans rfl
            clear s0
            go_simp
            with_reducible rfl
          rotate_left
          · simp only [Act.put, List.setIfInBounds_toArray, List.set_cons_zero, List.set_cons_succ, i64_w, i32_w]
            rfl
          refine pure_ (i := 12) (N := some 61) (v := ?_) (a' := ?_) #[true, true, true, true, true, true, true, true, true, true, true, true, true, false, false, false, false, false, false, false, false, false, false, false, false, false] rfl rfl (any_of HT_.out (by kernel_rfl)) (fun _ _ _ h => h) (Or.inl ⟨by rfl, ?_⟩) ?_ ?_
          rotate_left
          · intro w'
            go_simp
            with_reducible rfl
          rotate_left
          · simp only [Act.put, List.setIfInBounds_toArray, List.set_cons_zero, List.set_cons_succ, i64_w, i32_w]
            rfl
          refine pure_ (i := 13) (N := some 62) (v := ?_) (a' := ?_) #[true, true, true, true, true, true, true, true, true, true, true, true, true, true, false, false, false, false, false, false, false, false, false, false, false, false] rfl rfl (any_of HT_.out (by kernel_rfl)) (fun _ _ _ h => h) (Or.inl ⟨by rfl, ?_⟩) ?_ ?_
          rotate_left
          · intro w'
            go_simp
            with_reducible rfl
          rotate_left
          · simp only [Act.put, List.setIfInBounds_toArray, List.set_cons_zero, List.set_cons_succ, i64_w, i32_w]
            rfl
          refine pure_ (i := 14) (N := some 63) (v := ?_) (a' := ?_) #[true, true, true, true, true, true, true, true, true, true, true, true, true, true, true, false, false, false, false, false, false, false, false, false, false, false] rfl rfl (any_of HT_.out (by kernel_rfl)) (fun _ _ _ h => h) (Or.inl ⟨by rfl, ?_⟩) ?_ ?_
          rotate_left
          · intro w'
            go_simp
            with_reducible rfl
          rotate_left
          · simp only [Act.put, List.setIfInBounds_toArray, List.set_cons_zero, List.set_cons_succ, i64_w, i32_w]
            rfl
          refine take_ (i := 15) (N := some 64) (v := ?_) (a' := ?_) #[true, true, true, true, true, true, true, true, true, true, true, true, true, true, true, true, false, false, false, false, false, false, false, false, false, false] rfl rfl (take_ofW HT_.out HW_.out (by kernel_rfl)) (fun _ _ _ h => h) (Or.inl ⟨by rfl, ?_⟩) hHeld ?_ ?_
          rotate_left
          · intro w' s0
            have hv2 : w'.cell? ⟨g, 2, none⟩ = some (.slice A0 safe.length c0) := (blk_cell (blk_below HD.out s0.2.2.2) 2).trans rfl
            have hv3 : w'.cell? ⟨g, 3, none⟩ = some (.slice A1 ps.length c1) := (blk_cell (blk_below HD.out s0.2.2.2) 3).trans rfl
            clear s0
            go_simp
            with_reducible rfl
          rotate_left
          · simp only [Act.put, List.setIfInBounds_toArray, List.set_cons_zero, List.set_cons_succ, i64_w, i32_w]
            rfl
          refine one_ (i := 16) (N := some 65) #[true, true, true, true, true, true, true, true, true, true, true, true, true, true, true, true, true, false, false, false, false, false, false, false, false, false] rfl rfl (one_of HT_.out (by kernel_rfl)) (by decide) (fun K hK => ?_)
          refine goes_ Try.func154 (by kernel_rfl) rfl #[.agg #[.slice A0 safe.length c0, .slice A1 ps.length c1]] (by rfl) rfl rfl (by first | rfl | (simp only [List.map_toArray, List.map_cons, List.map_nil]; first | done | rfl)) ?_
          refine (impl_Disk_pages.calls A0 c0 safe A1 c1 ps _ _ (Kd.C_below HR0.out (below_step HBW.out hHeld.2.2.2)) HC0.out (Kd.C_below HR1.out (below_step HBW.out hHeld.2.2.2)) HC1.out NP.out).mono ?_
          rintro e w14 ⟨rfl, hb⟩
          refine ⟨_, rfl, ?_⟩
          have S14 := Aside0.mk (show (w14.heap[g8]? = some (.cells #[.int .i64 n0, .int .i64 n1, .int .i64 n2, .int .i64 n3] 81 (0, 0)) ∧ (w14.heap[g4]? = some (.cells #[.int .i64 b0, .int .i64 b1, .int .i64 b2, .int .i64 b3] 81 (0, 0)) ∧ w14.heap[g2]? = some (.cells #[.int .i64 0, .int .i64 0, .int .i64 0, .int .i64 0] 81 (0, 0)) ∧ Below w.heap.size w w14)) from ⟨blk_below hHeld.1 hb, blk_below hHeld.2.1 hb, blk_below hHeld.2.2.1 hb, below_step hHeld.2.2.2 hb⟩)
          clear hb hHeld
          refine hK.out _ _ (S14.out) (fun hHeld => ?_)
          clear hK K
          refine norm_ (a' := ?_) ?_ ?_
          rotate_left
          · show Act.put _ (some 65) _ = _
            simp only [Act.put, List.setIfInBounds_toArray, List.set_cons_zero, List.set_cons_succ, i64_w, i32_w]
            rfl
          refine pure_ (i := 17) (N := some 66) (v := ?_) (a' := ?_) #[true, true, true, true, true, true, true, true, true, true, true, true, true, true, true, true, true, true, false, false, false, false, false, false, false, false] rfl rfl (any_of HT_.out (by kernel_rfl)) (fun _ _ _ h => h) (Or.inl ⟨by rfl, ?_⟩) ?_ ?_
          rotate_left
          · intro w'
            go_simp
            with_reducible rfl
          rotate_left
          · simp only [Act.put, List.setIfInBounds_toArray, List.set_cons_zero, List.set_cons_succ, i64_w, i32_w]
            rfl
          refine pure_ (i := 18) (N := some 67) (v := ?_) (a' := ?_) #[true, true, true, true, true, true, true, true, true, true, true, true, true, true, true, true, true, true, true, false, false, false, false, false, false, false] rfl rfl (any_of HT_.out (by kernel_rfl)) (fun _ _ _ h => h) (Or.inl ⟨by rfl, ?_⟩) ?_ ?_
          rotate_left
          · intro w'
            go_simp
            with_reducible rfl
          rotate_left
          · simp only [Act.put, List.setIfInBounds_toArray, List.set_cons_zero, List.set_cons_succ, i64_w, i32_w]
            rfl
          refine pure_ (i := 19) (N := some 68) (v := ?_) (a' := ?_) #[true, true, true, true, true, true, true, true, true, true, true, true, true, true, true, true, true, true, true, true, false, false, false, false, false, false] rfl rfl (any_of HT_.out (by kernel_rfl)) (fun _ _ _ h => h) (Or.inl ⟨by rfl, ?_⟩) ?_ ?_
          rotate_left
          · intro w'
            go_simp
            with_reducible rfl
          rotate_left
          · simp only [Act.put, List.setIfInBounds_toArray, List.set_cons_zero, List.set_cons_succ, i64_w, i32_w]
            rfl
          refine pure_ (i := 20) (N := some 69) (v := ?_) (a' := ?_) #[true, true, true, true, true, true, true, true, true, true, true, true, true, true, true, true, true, true, true, true, true, false, false, false, false, false] rfl rfl (any_of HT_.out (by kernel_rfl)) (fun _ _ _ h => h) (Or.inl ⟨by rfl, ?_⟩) ?_ ?_
          rotate_left
          · intro w'
            go_simp
            with_reducible rfl
          rotate_left
          · simp only [Act.put, List.setIfInBounds_toArray, List.set_cons_zero, List.set_cons_succ, i64_w, i32_w]
            rfl
          refine take_ (i := 21) (N := some 70) (v := ?_) (a' := ?_) #[true, true, true, true, true, true, true, true, true, true, true, true, true, true, true, true, true, true, true, true, true, true, false, false, false, false] rfl rfl (take_ofW HT_.out HW_.out (by kernel_rfl)) (fun _ _ _ h => h) (Or.inl ⟨by rfl, ?_⟩) hHeld ?_ ?_
          rotate_left
          · intro w' s0
            have hs0 : w'.cell? ⟨g8, 0, none⟩ = some (.int .i64 n0) := (blk_cell s0.1 0).trans rfl
            have hs1 : w'.cell? ⟨g8, 1, none⟩ = some (.int .i64 n1) := (blk_cell s0.1 1).trans rfl
            have hs2 : w'.cell? ⟨g8, 2, none⟩ = some (.int .i64 n2) := (blk_cell s0.1 2).trans rfl
            have hs3 : w'.cell? ⟨g8, 3, none⟩ = some (.int .i64 n3) := (blk_cell s0.1 3).trans rfl
            clear s0
            go_simp
            with_reducible rfl
          rotate_left
          · simp only [Act.put, List.setIfInBounds_toArray, List.set_cons_zero, List.set_cons_succ, i64_w, i32_w]
            rfl
          refine pure_ (i := 22) (N := some 71) (v := ?_) (a' := ?_) #[true, true, true, true, true, true, true, true, true, true, true, true, true, true, true, true, true, true, true, true, true, true, true, false, false, false] rfl rfl (any_of HT_.out (by kernel_rfl)) (fun _ _ _ h => h) (Or.inl ⟨by rfl, ?_⟩) ?_ ?_
          rotate_left
          · intro w'
            go_simp
            with_reducible rfl
          rotate_left
          · simp only [Act.put, List.setIfInBounds_toArray, List.set_cons_zero, List.set_cons_succ, i64_w, i32_w]
            rfl
          refine take_ (i := 23) (N := some 72) (v := ?_) (a' := ?_) #[true, true, true, true, true, true, true, true, true, true, true, true, true, true, true, true, true, true, true, true, true, true, true, true, false, false] rfl rfl (take_ofW HT_.out HW_.out (by kernel_rfl)) (fun _ _ _ h => h) (Or.inl ⟨by rfl, ?_⟩) hHeld ?_ ?_
          rotate_left
          · intro w' s0
            have hb0 : w'.cell? ⟨g4, 0, none⟩ = some (.int .i64 b0) := (blk_cell s0.2.1 0).trans rfl
            clear s0
            go_simp
            with_reducible rfl
          rotate_left
          · simp only [Act.put, List.setIfInBounds_toArray, List.set_cons_zero, List.set_cons_succ, i64_w, i32_w]
            rfl
          refine pure_ (i := 24) (N := some 73) (v := ?_) (a' := ?_) #[true, true, true, true, true, true, true, true, true, true, true, true, true, true, true, true, true, true, true, true, true, true, true, true, true, false] rfl rfl (any_of HT_.out (by kernel_rfl)) (fun _ _ _ h => h) (Or.inl ⟨by rfl, ?_⟩) ?_ ?_
          rotate_left
          · intro w'
            go_simp
            with_reducible rfl
          rotate_left
          · simp only [Act.put, List.setIfInBounds_toArray, List.set_cons_zero, List.set_cons_succ, i64_w, i32_w]
            rfl
          refine pure_ (i := 25) (N := some 74) (v := ?_) (a' := ?_) #[true, true, true, true, true, true, true, true, true, true, true, true, true, true, true, true, true, true, true, true, true, true, true, true, true, true] rfl rfl (any_of HT_.out (by kernel_rfl)) (fun _ _ _ h => h) (Or.inl ⟨by rfl, ?_⟩) ?_ ?_
          rotate_left
          · intro w'
            go_simp
            with_reducible rfl
          rotate_left
          · simp only [Act.put, List.setIfInBounds_toArray, List.set_cons_zero, List.set_cons_succ, i64_w, i32_w]
            rfl
          refine done_ (done_of HT_.out (by kernel_rfl)) ?_
          have B8 := Aside0.mk hHeld.1
          have BB := Aside0.mk hHeld.2.1
          have BR := Aside0.mk hHeld.2.2.1
          have HB := Aside0.mk hHeld.2.2.2
          try clear hHeld
          go_wp2_with fail
          go_roundg gk
          case measure => omega
          case rel =>
            have hw1 : wrap64 (x + 1) = x + 1 := by have := HP0.out; have := HQ0.out; unfold wrap64; omega
            exact ⟨x + 1, b0, b1, b2, b3, by first | rfl | (rw [hw1]), ⟨by have := HXK.out; omega⟩, ⟨HRD.out _ (HST.out.trans h.symm)⟩, BB, BR, HB⟩
        rw [if_pos q4] at h
        have q4' : decide (b0 < n0) = true := decide_eq_true q4
        go_wp2_with fail
        refine start_ (n := 26) (S := fun w' => w'.heap[g8]? = some (.cells #[.int .i64 n0, .int .i64 n1, .int .i64 n2, .int .i64 n3] 81 (0, 0)) ∧ (w'.heap[g4]? = some (.cells #[.int .i64 b0, .int .i64 b1, .int .i64 b2, .int .i64 b3] 81 (0, 0)) ∧ w'.heap[g2]? = some (.cells #[.int .i64 0, .int .i64 0, .int .i64 0, .int .i64 0] 81 (0, 0)) ∧ Below w.heap.size w w')) (ds := []) #[false, false, false, false, false, false, false, false, false, false, false, false, false, false, false, false, false, false, false, false, false, false, false, false, false, false] (by kernel_rfl) rfl rfl (⟨blk_drew B8.out, blk_drew BB.out, blk_drew BR.out, below_drew1 HB.out⟩) (fun hHeld => ?_); refine with_tabW impl_bestSuper.tab8 impl_bestSuper.bits8 (fun HT_ HW_ => ?_)
        refine take_ (i := 0) (N := some 49) (v := ?_) (a' := ?_) #[true, false, false, false, false, false, false, false, false, false, false, false, false, false, false, false, false, false, false, false, false, false, false, false, false, false] rfl rfl (take_ofW HT_.out HW_.out (by kernel_rfl)) (fun _ _ _ h => h) (Or.inl ⟨by rfl, ?_⟩) hHeld ?_ ?_
        rotate_left
        · intro w' s0
          have hs0 : w'.cell? ⟨g8, 0, none⟩ = some (.int .i64 n0) := (blk_cell s0.1 0).trans rfl
          have hs1 : w'.cell? ⟨g8, 1, none⟩ = some (.int .i64 n1) := (blk_cell s0.1 1).trans rfl
          have hs2 : w'.cell? ⟨g8, 2, none⟩ = some (.int .i64 n2) := (blk_cell s0.1 2).trans rfl
          have hs3 : w'.cell? ⟨g8, 3, none⟩ = some (.int .i64 n3) := (blk_cell s0.1 3).trans rfl
          clear s0
          go_simp
          with_reducible rfl
        rotate_left
        · simp only [Act.put, List.setIfInBounds_toArray, List.set_cons_zero, List.set_cons_succ, i64_w, i32_w]
          rfl
        refine one_ (i := 1) (N := some 50) #[true, true, false, false, false, false, false, false, false, false, false, false, false, false, false, false, false, false, false, false, false, false, false, false, false, false] rfl rfl (one_of HT_.out (by kernel_rfl)) (by decide) (fun K hK => ?_)
        refine goes_ Try.func151 (by kernel_rfl) rfl #[.agg #[.int .i64 n0, .int .i64 n1, .int .i64 n2, .int .i64 n3]] (by rfl) rfl rfl (by first | rfl | (simp only [List.map_toArray, List.map_cons, List.map_nil]; first | done | rfl)) ?_
        refine (impl_Super_valid.calls n0 n1 n2 n3 true _ q1).mono ?_
        rintro e w13 ⟨rfl, hb⟩
        refine ⟨_, rfl, ?_⟩
        have S13 := Aside0.mk (show (w13.heap[g8]? = some (.cells #[.int .i64 n0, .int .i64 n1, .int .i64 n2, .int .i64 n3] 81 (0, 0)) ∧ (w13.heap[g4]? = some (.cells #[.int .i64 b0, .int .i64 b1, .int .i64 b2, .int .i64 b3] 81 (0, 0)) ∧ w13.heap[g2]? = some (.cells #[.int .i64 0, .int .i64 0, .int .i64 0, .int .i64 0] 81 (0, 0)) ∧ Below w.heap.size w w13)) from ⟨blk_below hHeld.1 hb, blk_below hHeld.2.1 hb, blk_below hHeld.2.2.1 hb, below_step hHeld.2.2.2 hb⟩)
        clear hb hHeld
        refine hK.out _ _ (S13.out) (fun hHeld => ?_)
        clear hK K
        refine norm_ (a' := ?_) ?_ ?_
        rotate_left
        · show Act.put _ (some 50) _ = _
          simp only [Act.put, List.setIfInBounds_toArray, List.set_cons_zero, List.set_cons_succ, i64_w, i32_w]
          rfl
        refine pure_ (i := 2) (N := some 51) (v := ?_) (a' := ?_) #[true, true, true, false, false, false, false, false, false, false, false, false, false, false, false, false, false, false, false, false, false, false, false, false, false, false] rfl rfl (any_of HT_.out (by kernel_rfl)) (fun _ _ _ h => h) (Or.inl ⟨by rfl, ?_⟩) ?_ ?_
        rotate_left
        · intro w'
          go_simp
          with_reducible rfl
        rotate_left
        · simp only [Act.put, List.setIfInBounds_toArray, List.set_cons_zero, List.set_cons_succ, i64_w, i32_w]
          rfl
        refine pure_ (i := 3) (N := some 52) (v := ?_) (a' := ?_) #[true, true, true, true, false, false, false, false, false, false, false, false, false, false, false, false, false, false, false, false, false, false, false, false, false, false] rfl rfl (any_of HT_.out (by kernel_rfl)) (fun _ _ _ h => h) (Or.inl ⟨by rfl, ?_⟩) ?_ ?_
        rotate_left
        · intro w'
          go_simp
          with_reducible rfl
        rotate_left
        · simp only [Act.put, List.setIfInBounds_toArray, List.set_cons_zero, List.set_cons_succ, i64_w, i32_w]
          rfl
        refine take_ (i := 4) (N := some 53) (v := ?_) (a' := ?_) #[true, true, true, true, true, false, false, false, false, false, false, false, false, false, false, false, false, false, false, false, false, false, false, false, false, false] rfl rfl (take_ofW HT_.out HW_.out (by kernel_rfl)) (fun _ _ _ h => h) (Or.inl ⟨by rfl, ?_⟩) hHeld ?_ ?_
        rotate_left
        · intro w' s0
          have hs0 : w'.cell? ⟨g8, 0, none⟩ = some (.int .i64 n0) := (blk_cell s0.1 0).trans rfl
          have hs1 : w'.cell? ⟨g8, 1, none⟩ = some (.int .i64 n1) := (blk_cell s0.1 1).trans rfl
          have hs2 : w'.cell? ⟨g8, 2, none⟩ = some (.int .i64 n2) := (blk_cell s0.1 2).trans rfl
          have hs3 : w'.cell? ⟨g8, 3, none⟩ = some (.int .i64 n3) := (blk_cell s0.1 3).trans rfl
          clear s0
          go_simp
          with_reducible rfl
        rotate_left
        · simp only [Act.put, List.setIfInBounds_toArray, List.set_cons_zero, List.set_cons_succ, i64_w, i32_w]
          rfl
        refine pure_ (i := 5) (N := some 54) (v := ?_) (a' := ?_) #[true, true, true, true, true, true, false, false, false, false, false, false, false, false, false, false, false, false, false, false, false, false, false, false, false, false] rfl rfl (any_of HT_.out (by kernel_rfl)) (fun _ _ _ h => h) (Or.inl ⟨by rfl, ?_⟩) ?_ ?_
        rotate_left
        · intro w'
          go_simp
          with_reducible rfl
        rotate_left
        · simp only [Act.put, List.setIfInBounds_toArray, List.set_cons_zero, List.set_cons_succ, i64_w, i32_w]
          rfl
        refine pure_ (i := 6) (N := some 55) (v := ?_) (a' := ?_) #[true, true, true, true, true, true, true, false, false, false, false, false, false, false, false, false, false, false, false, false, false, false, false, false, false, false] rfl rfl (any_of HT_.out (by kernel_rfl)) (fun _ _ _ h => h) (Or.inl ⟨by rfl, ?_⟩) ?_ ?_
        rotate_left
        · intro w'
          go_simp
          with_reducible rfl
        rotate_left
        · simp only [Act.put, List.setIfInBounds_toArray, List.set_cons_zero, List.set_cons_succ, i64_w, i32_w]
          rfl
        refine pure_ (i := 7) (N := some 56) (v := ?_) (a' := ?_) #[true, true, true, true, true, true, true, true, false, false, false, false, false, false, false, false, false, false, false, false, false, false, false, false, false, false] rfl rfl (any_of HT_.out (by kernel_rfl)) (fun _ _ _ h => h) (Or.inl ⟨by rfl, ?_⟩) ?_ ?_
        rotate_left
        · intro w'
          go_simp
          with_reducible rfl
        rotate_left
        · simp only [Act.put, List.setIfInBounds_toArray, List.set_cons_zero, List.set_cons_succ, i64_w, i32_w]
          rfl
        refine pure_ (i := 8) (N := some 57) (v := ?_) (a' := ?_) #[true, true, true, true, true, true, true, true, true, false, false, false, false, false, false, false, false, false, false, false, false, false, false, false, false, false] rfl rfl (any_of HT_.out (by kernel_rfl)) (fun _ _ _ h => h) (Or.inl ⟨by rfl, ?_⟩) ?_ ?_
        rotate_left
        · intro w'
          go_simp
          with_reducible rfl
        rotate_left
        · simp only [Act.put, List.setIfInBounds_toArray, List.set_cons_zero, List.set_cons_succ, i64_w, i32_w]
          rfl
        refine pure_ (i := 9) (N := some 58) (v := ?_) (a' := ?_) #[true, true, true, true, true, true, true, true, true, true, false, false, false, false, false, false, false, false, false, false, false, false, false, false, false, false] rfl rfl (any_of HT_.out (by kernel_rfl)) (fun _ _ _ h => h) (Or.inl ⟨by rfl, ?_⟩) ?_ ?_
        rotate_left
        · intro w'
          go_simp
          with_reducible rfl
        rotate_left
        · simp only [Act.put, List.setIfInBounds_toArray, List.set_cons_zero, List.set_cons_succ, i64_w, i32_w]
          rfl
        refine pure_ (i := 10) (N := some 59) (v := ?_) (a' := ?_) #[true, true, true, true, true, true, true, true, true, true, true, false, false, false, false, false, false, false, false, false, false, false, false, false, false, false] rfl rfl (any_of HT_.out (by kernel_rfl)) (fun _ _ _ h => h) (Or.inl ⟨by rfl, ?_⟩) ?_ ?_
        rotate_left
        · intro w'
          go_simp
          with_reducible rfl
        rotate_left
        · simp only [Act.put, List.setIfInBounds_toArray, List.set_cons_zero, List.set_cons_succ, i64_w, i32_w]
          rfl
        refine take_ (i := 11) (N := some 60) (v := ?_) (a' := ?_) #[true, true, true, true, true, true, true, true, true, true, true, true, false, false, false, false, false, false, false, false, false, false, false, false, false, false] rfl rfl (take_ofW HT_.out HW_.out (by kernel_rfl)) (fun _ _ _ h => h) (Or.inl ⟨by rfl, ?_⟩) hHeld ?_ ?_
        rotate_left
        · intro w' s0
          have hs0 : w'.cell? ⟨g8, 0, none⟩ = some (.int .i64 n0) := (blk_cell s0.1 0).trans rfl
          have hs1 : w'.cell? ⟨g8, 1, none⟩ = some (.int .i64 n1) := (blk_cell s0.1 1).trans rfl
          have hs2 : w'.cell? ⟨g8, 2, none⟩ = some (.int .i64 n2) := (blk_cell s0.1 2).trans rfl
          have hs3 : w'.cell? ⟨g8, 3, none⟩ = some (.int .i64 n3) := (blk_cell s0.1 3).trans rfl
          clear s0
          go_simp
          with_reducible rfl
        rotate_left
        · simp only [Act.put, List.setIfInBounds_toArray, List.set_cons_zero, List.set_cons_succ, i64_w, i32_w]
          rfl
        refine pure_ (i := 12) (N := some 61) (v := ?_) (a' := ?_) #[true, true, true, true, true, true, true, true, true, true, true, true, true, false, false, false, false, false, false, false, false, false, false, false, false, false] rfl rfl (any_of HT_.out (by kernel_rfl)) (fun _ _ _ h => h) (Or.inl ⟨by rfl, ?_⟩) ?_ ?_
        rotate_left
        · intro w'
          go_simp
          with_reducible rfl
        rotate_left
        · simp only [Act.put, List.setIfInBounds_toArray, List.set_cons_zero, List.set_cons_succ, i64_w, i32_w]
          rfl
        refine pure_ (i := 13) (N := some 62) (v := ?_) (a' := ?_) #[true, true, true, true, true, true, true, true, true, true, true, true, true, true, false, false, false, false, false, false, false, false, false, false, false, false] rfl rfl (any_of HT_.out (by kernel_rfl)) (fun _ _ _ h => h) (Or.inl ⟨by rfl, ?_⟩) ?_ ?_
        rotate_left
        · intro w'
          go_simp
          with_reducible rfl
        rotate_left
        · simp only [Act.put, List.setIfInBounds_toArray, List.set_cons_zero, List.set_cons_succ, i64_w, i32_w]
          rfl
        refine pure_ (i := 14) (N := some 63) (v := ?_) (a' := ?_) #[true, true, true, true, true, true, true, true, true, true, true, true, true, true, true, false, false, false, false, false, false, false, false, false, false, false] rfl rfl (any_of HT_.out (by kernel_rfl)) (fun _ _ _ h => h) (Or.inl ⟨by rfl, ?_⟩) ?_ ?_
        rotate_left
        · intro w'
          go_simp
          with_reducible rfl
        rotate_left
        · simp only [Act.put, List.setIfInBounds_toArray, List.set_cons_zero, List.set_cons_succ, i64_w, i32_w]
          rfl
        refine take_ (i := 15) (N := some 64) (v := ?_) (a' := ?_) #[true, true, true, true, true, true, true, true, true, true, true, true, true, true, true, true, false, false, false, false, false, false, false, false, false, false] rfl rfl (take_ofW HT_.out HW_.out (by kernel_rfl)) (fun _ _ _ h => h) (Or.inl ⟨by rfl, ?_⟩) hHeld ?_ ?_
        rotate_left
        · intro w' s0
          have hv2 : w'.cell? ⟨g, 2, none⟩ = some (.slice A0 safe.length c0) := (blk_cell (blk_below HD.out s0.2.2.2) 2).trans rfl
          have hv3 : w'.cell? ⟨g, 3, none⟩ = some (.slice A1 ps.length c1) := (blk_cell (blk_below HD.out s0.2.2.2) 3).trans rfl
          clear s0
          go_simp
          with_reducible rfl
        rotate_left
        · simp only [Act.put, List.setIfInBounds_toArray, List.set_cons_zero, List.set_cons_succ, i64_w, i32_w]
          rfl
        refine one_ (i := 16) (N := some 65) #[true, true, true, true, true, true, true, true, true, true, true, true, true, true, true, true, true, false, false, false, false, false, false, false, false, false] rfl rfl (one_of HT_.out (by kernel_rfl)) (by decide) (fun K hK => ?_)
        refine goes_ Try.func154 (by kernel_rfl) rfl #[.agg #[.slice A0 safe.length c0, .slice A1 ps.length c1]] (by rfl) rfl rfl (by first | rfl | (simp only [List.map_toArray, List.map_cons, List.map_nil]; first | done | rfl)) ?_
        refine (impl_Disk_pages.calls A0 c0 safe A1 c1 ps _ _ (Kd.C_below HR0.out (below_step HBW.out hHeld.2.2.2)) HC0.out (Kd.C_below HR1.out (below_step HBW.out hHeld.2.2.2)) HC1.out NP.out).mono ?_
        rintro e w14 ⟨rfl, hb⟩
        refine ⟨_, rfl, ?_⟩
        have S14 := Aside0.mk (show (w14.heap[g8]? = some (.cells #[.int .i64 n0, .int .i64 n1, .int .i64 n2, .int .i64 n3] 81 (0, 0)) ∧ (w14.heap[g4]? = some (.cells #[.int .i64 b0, .int .i64 b1, .int .i64 b2, .int .i64 b3] 81 (0, 0)) ∧ w14.heap[g2]? = some (.cells #[.int .i64 0, .int .i64 0, .int .i64 0, .int .i64 0] 81 (0, 0)) ∧ Below w.heap.size w w14)) from ⟨blk_below hHeld.1 hb, blk_below hHeld.2.1 hb, blk_below hHeld.2.2.1 hb, below_step hHeld.2.2.2 hb⟩)
        clear hb hHeld
        refine hK.out _ _ (S14.out) (fun hHeld => ?_)
        clear hK K
        refine norm_ (a' := ?_) ?_ ?_
        rotate_left
        · show Act.put _ (some 65) _ = _
          simp only [Act.put, List.setIfInBounds_toArray, List.set_cons_zero, List.set_cons_succ, i64_w, i32_w]
          rfl
        refine pure_ (i := 17) (N := some 66) (v := ?_) (a' := ?_) #[true, true, true, true, true, true, true, true, true, true, true, true, true, true, true, true, true, true, false, false, false, false, false, false, false, false] rfl rfl (any_of HT_.out (by kernel_rfl)) (fun _ _ _ h => h) (Or.inl ⟨by rfl, ?_⟩) ?_ ?_
        rotate_left
        · intro w'
          go_simp
          with_reducible rfl
        rotate_left
        · simp only [Act.put, List.setIfInBounds_toArray, List.set_cons_zero, List.set_cons_succ, i64_w, i32_w]
          rfl
        refine pure_ (i := 18) (N := some 67) (v := ?_) (a' := ?_) #[true, true, true, true, true, true, true, true, true, true, true, true, true, true, true, true, true, true, true, false, false, false, false, false, false, false] rfl rfl (any_of HT_.out (by kernel_rfl)) (fun _ _ _ h => h) (Or.inl ⟨by rfl, ?_⟩) ?_ ?_
        rotate_left
        · intro w'
          go_simp
          with_reducible rfl
        rotate_left
        · simp only [Act.put, List.setIfInBounds_toArray, List.set_cons_zero, List.set_cons_succ, i64_w, i32_w]
          rfl
        refine pure_ (i := 19) (N := some 68) (v := ?_) (a' := ?_) #[true, true, true, true, true, true, true, true, true, true, true, true, true, true, true, true, true, true, true, true, false, false, false, false, false, false] rfl rfl (any_of HT_.out (by kernel_rfl)) (fun _ _ _ h => h) (Or.inl ⟨by rfl, ?_⟩) ?_ ?_
        rotate_left
        · intro w'
          go_simp
          with_reducible rfl
        rotate_left
        · simp only [Act.put, List.setIfInBounds_toArray, List.set_cons_zero, List.set_cons_succ, i64_w, i32_w]
          rfl
        refine pure_ (i := 20) (N := some 69) (v := ?_) (a' := ?_) #[true, true, true, true, true, true, true, true, true, true, true, true, true, true, true, true, true, true, true, true, true, false, false, false, false, false] rfl rfl (any_of HT_.out (by kernel_rfl)) (fun _ _ _ h => h) (Or.inl ⟨by rfl, ?_⟩) ?_ ?_
        rotate_left
        · intro w'
          go_simp
          with_reducible rfl
        rotate_left
        · simp only [Act.put, List.setIfInBounds_toArray, List.set_cons_zero, List.set_cons_succ, i64_w, i32_w]
          rfl
        refine take_ (i := 21) (N := some 70) (v := ?_) (a' := ?_) #[true, true, true, true, true, true, true, true, true, true, true, true, true, true, true, true, true, true, true, true, true, true, false, false, false, false] rfl rfl (take_ofW HT_.out HW_.out (by kernel_rfl)) (fun _ _ _ h => h) (Or.inl ⟨by rfl, ?_⟩) hHeld ?_ ?_
        rotate_left
        · intro w' s0
          have hs0 : w'.cell? ⟨g8, 0, none⟩ = some (.int .i64 n0) := (blk_cell s0.1 0).trans rfl
          have hs1 : w'.cell? ⟨g8, 1, none⟩ = some (.int .i64 n1) := (blk_cell s0.1 1).trans rfl
          have hs2 : w'.cell? ⟨g8, 2, none⟩ = some (.int .i64 n2) := (blk_cell s0.1 2).trans rfl
          have hs3 : w'.cell? ⟨g8, 3, none⟩ = some (.int .i64 n3) := (blk_cell s0.1 3).trans rfl
          clear s0
          go_simp
          with_reducible rfl
        rotate_left
        · simp only [Act.put, List.setIfInBounds_toArray, List.set_cons_zero, List.set_cons_succ, i64_w, i32_w]
          rfl
        refine pure_ (i := 22) (N := some 71) (v := ?_) (a' := ?_) #[true, true, true, true, true, true, true, true, true, true, true, true, true, true, true, true, true, true, true, true, true, true, true, false, false, false] rfl rfl (any_of HT_.out (by kernel_rfl)) (fun _ _ _ h => h) (Or.inl ⟨by rfl, ?_⟩) ?_ ?_
        rotate_left
        · intro w'
          go_simp
          with_reducible rfl
        rotate_left
        · simp only [Act.put, List.setIfInBounds_toArray, List.set_cons_zero, List.set_cons_succ, i64_w, i32_w]
          rfl
        refine take_ (i := 23) (N := some 72) (v := ?_) (a' := ?_) #[true, true, true, true, true, true, true, true, true, true, true, true, true, true, true, true, true, true, true, true, true, true, true, true, false, false] rfl rfl (take_ofW HT_.out HW_.out (by kernel_rfl)) (fun _ _ _ h => h) (Or.inl ⟨by rfl, ?_⟩) hHeld ?_ ?_
        rotate_left
        · intro w' s0
          have hb0 : w'.cell? ⟨g4, 0, none⟩ = some (.int .i64 b0) := (blk_cell s0.2.1 0).trans rfl
          clear s0
          go_simp
          with_reducible rfl
        rotate_left
        · simp only [Act.put, List.setIfInBounds_toArray, List.set_cons_zero, List.set_cons_succ, i64_w, i32_w]
          rfl
        refine pure_ (i := 24) (N := some 73) (v := ?_) (a' := ?_) #[true, true, true, true, true, true, true, true, true, true, true, true, true, true, true, true, true, true, true, true, true, true, true, true, true, false] rfl rfl (any_of HT_.out (by kernel_rfl)) (fun _ _ _ h => h) (Or.inl ⟨by rfl, ?_⟩) ?_ ?_
        rotate_left
        · intro w'
          go_simp
          with_reducible rfl
        rotate_left
        · simp only [Act.put, List.setIfInBounds_toArray, List.set_cons_zero, List.set_cons_succ, i64_w, i32_w]
          rfl
        refine pure_ (i := 25) (N := some 74) (v := ?_) (a' := ?_) #[true, true, true, true, true, true, true, true, true, true, true, true, true, true, true, true, true, true, true, true, true, true, true, true, true, true] rfl rfl (any_of HT_.out (by kernel_rfl)) (fun _ _ _ h => h) (Or.inl ⟨by rfl, ?_⟩) ?_ ?_
        rotate_left
        · intro w'
          go_simp
          with_reducible rfl
        rotate_left
        · simp only [Act.put, List.setIfInBounds_toArray, List.set_cons_zero, List.set_cons_succ, i64_w, i32_w]
          rfl
        refine done_ (done_of HT_.out (by kernel_rfl)) ?_
        have B8 := Aside0.mk hHeld.1
        have BB := Aside0.mk hHeld.2.1
        have BR := Aside0.mk hHeld.2.2.1
        have HB := Aside0.mk hHeld.2.2.2
        try clear hHeld
        have hs0 : w14.cell? ⟨g8, 0, none⟩ = some (.int .i64 n0) := (blk_cell B8.out 0).trans rfl
        have hs1 : w14.cell? ⟨g8, 1, none⟩ = some (.int .i64 n1) := (blk_cell B8.out 1).trans rfl
        have hs2 : w14.cell? ⟨g8, 2, none⟩ = some (.int .i64 n2) := (blk_cell B8.out 2).trans rfl
        have hs3 : w14.cell? ⟨g8, 3, none⟩ = some (.int .i64 n3) := (blk_cell B8.out 3).trans rfl
        go_wp2_with (first | ((with_reducible refine gate_ (.store 81 (.tmp 4) (.tmp 75)) rfl ?_); refine store_blk rfl rfl 81 (.tmp 4) (.tmp 75) rfl (off := 0) (u := .agg #[.int .i64 n0, .int .i64 n1, .int .i64 n2, .int .i64 n3]) #[.int .i64 n0, .int .i64 n1, .int .i64 n2, .int .i64 n3] rfl rfl BB.out [.int .i64 n0, .int .i64 n1, .int .i64 n2, .int .i64 n3] rfl (by kernel_rfl) (Nat.le_of_ble_eq_true rfl) rfl rfl ?_; intro w18 hblk hgrw; have BB := Aside0.mk hblk; have BR := Aside0.mk (blk_grown BR.out hgrw (fun e => N24.out (Option.some.inj e))); have HB := Aside0.mk (HB.out.grown hgrw HB.out.size (by intro q hq; cases hq; exact G4.out)); clear hblk hgrw))
        go_roundg gk
        case measure => omega
        case rel =>
          have hw1 : wrap64 (x + 1) = x + 1 := by have := HP0.out; have := HQ0.out; unfold wrap64; omega
          exact ⟨x + 1, n0, n1, n2, n3, by first | rfl | (rw [hw1]), ⟨by have := HXK.out; omega⟩, ⟨HRD.out _ (HST.out.trans h.symm)⟩, BB, BR, HB⟩
end Go.Proofs.Ytlopmffdebhpfaa.G

/-! ## G117 -/
namespace Go.Proofs.Ytlopmffdebhpfaa.G
open Go.RowKit Go.Proofs.YtlopmffdebhpfaaW.PrintWords Go.Proofs.YtlopmffdebhpfaaW.PrintLast Go.Proofs.YtlopmffdebhpfaaW.PrintMore
attribute [local go_sem] max2_int min2_int max_two min_two max_three min_three max_four min_four
set_option linter.unusedVariables false
set_option linter.unusedSimpArgs false

/-! ### spec_l2View_page: function 117 -/
mutual
def spec_l2View_page.j0 : Nat → Int → Bool → List (List Int) → Option (Int × List Int × Bool)
  | 0, _, _, _ => none
  | k + 1, x1, x18, x700000 => if x18 = true then (some (0, (([] : List Int)), false)) else (spec_l2View_page.l0 k x1 (([] : List Int)) 0 x700000)
def spec_l2View_page.l0 : Nat → Int → List Int → Int → List (List Int) → Option (Int × List Int × Bool)
  | 0, _, _, _, _ => none
  | k + 1, x1, x7, x8, x700000 => if x8 < 4 then (if 0 ≤ (wrap64 ((wrap64 (4 * x1)) + x8)) then (if (wrap64 ((wrap64 (4 * x1)) + x8)) < (x700000.length : Int) then (if x7.length + (rd_L2 x700000 (wrap64 ((wrap64 (4 * x1)) + x8))).length < 140737488355328 then (spec_l2View_page.l0 k x1 (x7 ++ (rd_L2 x700000 (wrap64 ((wrap64 (4 * x1)) + x8)))) (wrap64 (x8 + 1)) x700000) else (none)) else (none)) else (none)) else ((spec_DecodePage.f k x1 x7).bind fun bt710 => (some (bt710.1, bt710.2.1, bt710.2.2)))
end
def spec_l2View_page.f (k : Nat) (l0_0 : List (List Int)) (a1 : Int) : Option (Int × List Int × Bool) := if a1 < 0 then (spec_l2View_page.j0 k a1 true l0_0) else (spec_l2View_page.j0 k a1 (decide (a1 ≥ (wrap64 ((l0_0.length : Int) / 4)))) l0_0)
set_option maxHeartbeats 8000000 in
set_option maxRecDepth 100000 in
theorem spec_l2View_page.calls (k : Nat) (A0_0 : Option Addr) (c0_0 : Nat) (l0_0 : List (List Int)) (a1 : Int) (r1 : Int) (r2 : List Int) (r3 : Bool) (w : World) (hr0_0 : Kd.C (Kd.slice 5 (Kd.int .u8)) w A0_0 l0_0.length l0_0) (hc0_0 : l0_0.length ≤ c0_0) (h : spec_l2View_page.f k l0_0 a1 = some (r1, r2, r3)) :
    Calls Try.prog 117 #[.agg #[.slice A0_0 l0_0.length c0_0], .int .i64 a1] w fun e w' => ∃ v1_ : Value, e = .returned (.tuple #[.int .i64 r1, v1_, .bool r3]) ∧ Kd.R (Kd.int .u8) 5 w' w.heap.size (fun _ => True) v1_ r2 ∧ Below w.heap.size w w' := by
  have hu163 := Try.underlying163
  have HR0_0 := Aside0.mk hr0_0
  have HC0_0 := Aside0.mk hc0_0
  clear hr0_0 hc0_0
  have HB := Aside0.mk (Below.refl w.heap.size w)
  have H : (if a1 < 0 then (spec_l2View_page.j0 k a1 true l0_0) else (spec_l2View_page.j0 k a1 (decide (a1 ≥ (wrap64 ((l0_0.length : Int) / 4)))) l0_0)) = some (r1, r2, r3) := h
  clear h
  have HC3 := Aside0.mk H
  clear H
  go_enter Try.func117, Try.ntmps117
  go_upto_region 1 with (first | ((with_reducible refine gate_dst (N := 2) rfl ?_); (try (refine gate_guard (by rfl) ?_; dsimp only)); refine box_event ?hg (N := 2) ?hd (cs := #[.slice A0_0 l0_0.length c0_0]) (t := 163) ?hr ?_; (case hd => rfl); (case hg => rfl); (case hr => first | (go_simp; done) | (go_simp; rfl)); intro gb699 hg w4 hbox hb; have n0_ := Aside0.mk (below_step (by repeat (first | (with_reducible first | exact HB.out | apply below_alloc | apply pw_below_drewN | apply below_drew1) | exact HB.out)) hb); have n1_ := Aside0.mk (hbox); have n2_ := Aside0.mk ((by rw [hg]; exact (below_size (by repeat (first | (with_reducible first | exact HB.out | apply below_alloc | apply pw_below_drewN | apply below_drew1) | exact HB.out))) : w.heap.size ≤ gb699)); have n3_ := Aside0.mk ((by rw [hg]; exact (below_size (by repeat (first | (with_reducible first | exact HB.out | apply below_alloc | apply pw_below_drewN | apply below_drew1) | exact HB.out))) : w.heap.size ≤ gb699)); clear HB; have HB := n0_; have BK699 := n1_; have GW699 := n2_; have GE699 := n3_; clear n0_ n1_ n2_ n3_; clear hb hbox hg))
  (try simp only [Act.put, List.setIfInBounds_toArray, List.set_cons_zero, List.set_cons_succ])
  go_cut [18] (fun v18 wc => ∃ (kq : Nat) (x18_2 : Bool), v18 = .bool x18_2 ∧ Aside0 (spec_l2View_page.j0 kq a1 x18_2 l0_0 = some (r1, r2, r3)) ∧ Aside0 (kq ≤ k) ∧ Aside0 (wc.heap[gb699]? = some (.cells #[(.slice A0_0 l0_0.length c0_0)] 163 (0, 0))) ∧ Aside0 (Below w.heap.size w wc))
  case first =>
    have H := HC3.out
    clear HC3
    by_cases c5 : a1 < 0
    · rw [if_pos c5] at H
      have c5b0 : decide (a1 < 0) = true := decide_eq_true c5
      clear c5
      (first | rw [c5b0] | (simp only [i64_w, i32_w]; rw [c5b0]) | skip)
      have H' := Aside0.mk H
      clear H
      go_wp2
      go_meet
      case rel => exact ⟨_, (true), (by first | rfl | (simp; done) | (simp [*]; done)), H', ⟨by first | omega | exact Nat.le_refl _⟩, ⟨by (with_reducible repeat (first | refine blk_drewN ?_ _ | refine blk_drew ?_ | refine blk_alloc ?_ _)); exact BK699.out⟩, ⟨by repeat (first | (with_reducible first | exact HB.out | apply below_alloc | apply pw_below_drewN | apply below_drew1 | refine below_set ?_ GE699.out) | exact HB.out)⟩⟩
    · rw [if_neg c5] at H
      have c5b0 : decide (a1 < 0) = false := decide_eq_false c5
      clear c5
      (first | rw [c5b0] | (simp only [i64_w, i32_w]; rw [c5b0]) | skip)
      have H' := Aside0.mk H
      clear H
      have hcz6_0 : w4.cell? ⟨gb699, 0, none⟩ = some (.slice A0_0 l0_0.length c0_0) := (blk_cell BK699.out 0).trans rfl
      have hfz6_0 := blk_frozen BK699.out 0
      go_wp2
      go_meet
      case rel => exact ⟨_, (decide (a1 ≥ (wrap64 ((l0_0.length : Int) / 4)))), (by first | rfl | (simp; done) | (simp [*]; done)), H', ⟨by first | omega | exact Nat.le_refl _⟩, ⟨by (with_reducible repeat (first | refine blk_drewN ?_ _ | refine blk_drew ?_ | refine blk_alloc ?_ _)); exact BK699.out⟩, ⟨by repeat (first | (with_reducible first | exact HB.out | apply below_alloc | apply pw_below_drewN | apply below_drew1 | refine below_set ?_ GE699.out) | exact HB.out)⟩⟩
  case rest =>
    clear HC3
    try clear c1
    try clear p2
    try clear c5
    try clear c5b0
    try clear p6
    try clear hcz6_0
    try clear hfz6_0
    obtain ⟨kq, x18_2, rfl, HA, HJ2, BK699, HB⟩ := hcut
    cases kq with
    | zero => exact absurd HA.out (by simp [spec_l2View_page.j0])
    | succ kj2 =>
      have H := HA.out
      clear HA
      simp only [spec_l2View_page.j0] at H
      by_cases c7 : x18_2 = true
      · subst c7
        have H1 : (some (0, (([] : List Int)), false)) = some (r1, r2, r3) := by rw [if_pos rfl] at H; exact H
        clear H
        have H := H1
        clear H1
        obtain ⟨y700, hy700⟩ : ∃ y_ : List Int, y_ = (([] : List Int)) := ⟨_, rfl⟩
        replace H : (some (0, y700, false)) = some (r1, r2, r3) := by first | (rw [hy700]; with_reducible exact H) | (have H2_ := (Option.bind_some _ _).symm.trans H; rw [hy700]; with_reducible exact H2_) | (have H2_ := (Option.bind_some _ _).symm.trans H; with_reducible exact H2_) | with_reducible exact H | (rw [hy700]; exact H) | exact H
        have Ny700 := Aside0.mk hy700
        clear hy700
        simp only [Option.some.injEq, Prod.mk.injEq] at H
        obtain ⟨rfl, rfl, rfl⟩ := H
        go_wp2_with (first | ((with_reducible refine gate_dst (N := 19) rfl ?_); (try (refine gate_guard (by rfl) ?_; dsimp only)); refine Kd.R_lit (Kd.int .u8) _ 5 ?hg (N := 19) ?hd (xs := ([] : List Int)) (inner := []) (ok := fun _ => True) (okp := fun _ => True) ?hr ?hp (fun _ hk => hk) trivial (Below.refl _ _) (Nat.le_refl _) (by simp) ?_; (case hd => rfl); (case hg => rfl); (case hr => first | (go_simp; done) | (go_simp; rfl)); (case hp => exact (Reps.none _ _)); intro v701 w8 ho9 hb hg_ hnew_; clear hg_ hnew_; (first | rw [← Ny700.out] at ho9 | (simp only [Int.reduceToNat] at ho9; rw [← Ny700.out] at ho9)); have n0_ := Aside0.mk (Kd.R_lower ho9 (below_size (by repeat (first | (with_reducible first | exact HB.out | apply below_alloc | apply pw_below_drewN | apply below_drew1 | refine below_set ?_ GE699.out) | exact HB.out)))); have n1_ := Aside0.mk (blk_below (g := gb699) (o := .cells #[.slice A0_0 l0_0.length c0_0] 163 (0, 0)) (by (with_reducible repeat (first | refine blk_drewN ?_ _ | refine blk_drew ?_ | refine blk_alloc ?_ _)); exact BK699.out) hb); have n2_ := Aside0.mk (below_step (by repeat (first | (with_reducible first | exact HB.out | apply below_alloc | apply pw_below_drewN | apply below_drew1 | refine below_set ?_ GE699.out) | exact HB.out)) hb); clear BK699; clear HB; have HO702 := n0_; have BK699 := n1_; have HB := n2_; clear n0_ n1_ n2_; clear hb ho9))
        go_ret3
        exact ⟨_, by first | rfl | (simp [errW_none, errW_some] <;> rfl) | (simp [*, errW_none, errW_some] <;> rfl), by (with_reducible repeat (first | apply Kd.R_alloc | apply Kd.R_drewN | apply Kd.R_drew)); exact HO702.out, by repeat (first | (with_reducible first | exact HB.out | apply below_alloc | apply pw_below_drewN | apply below_drew1 | refine below_set ?_ GE699.out) | exact HB.out)⟩
      · replace c7 := Bool.eq_false_iff.mpr c7
        subst c7
        have H1 : (spec_l2View_page.l0 kj2 a1 (([] : List Int)) 0 l0_0) = some (r1, r2, r3) := by rw [if_neg (show ¬ (false = true) by decide)] at H; exact H
        clear H
        have H := H1
        clear H1
        obtain ⟨y703, hy703⟩ : ∃ y_ : List Int, y_ = (([] : List Int)) := ⟨_, rfl⟩
        replace H : (spec_l2View_page.l0 kj2 a1 y703 0 l0_0) = some (r1, r2, r3) := by first | (rw [hy703]; with_reducible exact H) | (have H2_ := (Option.bind_some _ _).symm.trans H; rw [hy703]; with_reducible exact H2_) | (have H2_ := (Option.bind_some _ _).symm.trans H; with_reducible exact H2_) | with_reducible exact H | (rw [hy703]; exact H) | exact H
        have Ny703 := Aside0.mk hy703
        clear hy703
        have H' := Aside0.mk H
        clear H
        go_wp2_with (first | ((with_reducible refine gate_dst (N := 20) rfl ?_); (try (refine gate_guard (by rfl) ?_; dsimp only)); refine Kd.R_lit (Kd.int .u8) _ 5 ?hg (N := 20) ?hd (xs := ([] : List Int)) (inner := []) (ok := fun _ => True) (okp := fun _ => True) ?hr ?hp (fun _ hk => hk) trivial (Below.refl _ _) (Nat.le_refl _) (by simp) ?_; (case hd => rfl); (case hg => rfl); (case hr => first | (go_simp; done) | (go_simp; rfl)); (case hp => exact (Reps.none _ _)); intro v704 w10 ho11 hb hg_ hnew_; clear hg_ hnew_; (first | rw [← Ny703.out] at ho11 | (simp only [Int.reduceToNat] at ho11; rw [← Ny703.out] at ho11)); have n0_ := Aside0.mk (Kd.R_lower ho11 (below_size (by repeat (first | (with_reducible first | exact HB.out | apply below_alloc | apply pw_below_drewN | apply below_drew1 | refine below_set ?_ GE699.out) | exact HB.out)))); have n1_ := Aside0.mk (blk_below (g := gb699) (o := .cells #[.slice A0_0 l0_0.length c0_0] 163 (0, 0)) (by (with_reducible repeat (first | refine blk_drewN ?_ _ | refine blk_drew ?_ | refine blk_alloc ?_ _)); exact BK699.out) hb); have n2_ := Aside0.mk (below_step (by repeat (first | (with_reducible first | exact HB.out | apply below_alloc | apply pw_below_drewN | apply below_drew1 | refine below_set ?_ GE699.out) | exact HB.out)) hb); clear BK699; clear HB; have HO705 := n0_; have BK699 := n1_; have HB := n2_; clear n0_ n1_ n2_; clear hb ho11))
        go_loopg [7, 8] kj2 (fun kq v7 v8 w' => ∃ (x7_2 : List Int) (x8_2 : Int), v8 = .int .i64 x8_2 ∧ Aside0 (spec_l2View_page.l0 kq a1 x7_2 x8_2 l0_0 = some (r1, r2, r3)) ∧ Aside0 (kq ≤ kj2) ∧ Aside0 (Kd.R (Kd.int .u8) 5 w' w.heap.size (fun _ => True) v7 x7_2) ∧ Aside0 (w'.heap[gb699]? = some (.cells #[(.slice A0_0 l0_0.length c0_0)] 163 (0, 0))) ∧ Aside0 (Below w.heap.size w w'))
        case atStart => exact ⟨(y703), (0), (by first | rfl | (simp; done) | (simp [*]; done)), H', ⟨Nat.le_refl _⟩, ⟨by (with_reducible repeat (first | apply Kd.R_alloc | apply Kd.R_drewN | apply Kd.R_drew)); exact HO705.out⟩, ⟨by (with_reducible repeat (first | refine blk_drewN ?_ _ | refine blk_drew ?_ | refine blk_alloc ?_ _)); exact BK699.out⟩, ⟨by repeat (first | (with_reducible first | exact HB.out | apply below_alloc | apply pw_below_drewN | apply below_drew1 | refine below_set ?_ GE699.out) | exact HB.out)⟩⟩
        case round =>
          clear H'
          try clear c1
          try clear p2
          try clear c5
          try clear c5b0
          try clear p6
          try clear c7
          try clear c11
          try clear hcz6_0
          try clear hfz6_0
          try clear p2
          try clear p6
          obtain ⟨x7_2, x8_2, rfl, HA, HK2, HO_7, BK699, HB⟩ := hrel
          cases gk with
          | zero => exact absurd HA.out (by simp [spec_l2View_page.l0])
          | succ k2 =>
            have H := HA.out
            clear HA
            simp only [spec_l2View_page.l0] at H
            by_cases c12 : x8_2 < 4
            · rw [if_pos c12] at H
              have c12b0 : decide (x8_2 < 4) = true := decide_eq_true c12
              clear c12
              obtain ⟨ji13, hji13⟩ : ∃ j_ : Int, (wrap64 ((wrap64 (4 * a1)) + x8_2)) = j_ := ⟨_, rfl⟩
              replace H : (if 0 ≤ (ji13) then (if (ji13) < (l0_0.length : Int) then (if x7_2.length + (rd_L2 l0_0 (ji13)).length < 140737488355328 then (spec_l2View_page.l0 k2 a1 (x7_2 ++ (rd_L2 l0_0 (ji13))) (wrap64 (x8_2 + 1)) l0_0) else (none)) else (none)) else (none)) = some (r1, r2, r3) := by first | (rw [hji13] at H; exact H) | (simp only [hji13] at H ⊢; exact H)
              have hji13w : (IntKind.i64.wrap ((wrap64 (4 * a1)) + x8_2)) = ji13 := (i64_w _).trans hji13
              by_cases c14 : 0 ≤ (ji13)
              · rw [if_pos c14] at H
                have c14b0 : decide (0 ≤ (ji13)) = true := decide_eq_true c14
                clear c14
                by_cases c15 : (ji13) < (l0_0.length : Int)
                · rw [if_pos c15] at H
                  have c15b0 : decide ((ji13) < (l0_0.length : Int)) = true := decide_eq_true c15
                  clear c15
                  by_cases c16 : x7_2.length + (rd_L2 l0_0 (ji13)).length < 140737488355328
                  · rw [if_pos c16] at H
                    have LMc16 := Aside0.mk c16
                    clear c16
                    obtain ⟨y707, hy707⟩ : ∃ y_ : List Int, y_ = (x7_2 ++ (rd_L2 l0_0 (ji13))) := ⟨_, rfl⟩
                    replace H : (spec_l2View_page.l0 k2 a1 y707 (wrap64 (x8_2 + 1)) l0_0) = some (r1, r2, r3) := by first | (rw [hy707]; with_reducible exact H) | (have H2_ := (Option.bind_some _ _).symm.trans H; rw [hy707]; with_reducible exact H2_) | (have H2_ := (Option.bind_some _ _).symm.trans H; with_reducible exact H2_) | with_reducible exact H | (rw [hy707]; exact H) | exact H
                    have Ny707 := Aside0.mk hy707
                    clear hy707
                    have H' := Aside0.mk H
                    clear H
                    have hcz17_0 : wr.cell? ⟨gb699, 0, none⟩ = some (.slice A0_0 l0_0.length c0_0) := (blk_cell BK699.out 0).trans rfl
                    have hfz17_0 := blk_frozen BK699.out 0
                    have p706 : 0 ≤ ((ji13) : Int) := of_decide_eq_true (by first | (with_reducible assumption) | assumption)
                    have q706 : (ji13) < (l0_0.length : Int) := of_decide_eq_true (by first | (with_reducible assumption) | assumption)
                    obtain ⟨ad706, A706_0, c706_0, e706, hx706_0, hl706_0, hi706_0⟩ := at_L2 HR0_0.out (ji13) p706 q706
                    cases e706
                    replace hx706_0 := (HB.out.cell (World.block_lt_of_cell? w _ hx706_0)).trans hx706_0
                    have HR706_0 := Aside0.mk hi706_0
                    have HC706_0 := Aside0.mk hl706_0
                    clear hi706_0 hl706_0
                    replace p706 := eq_true p706
                    replace q706 := eq_true q706
                    go_wp2_with (first | ((with_reducible refine gate_builtin (b := .append) (xs := #[.tmp 25, .tmp 33]) rfl ?_); (try (refine gate_guard (by rfl) ?_; dsimp only)); at_builtin; refine Kd.R_append_rows (Kd.int .u8) (w0 := w) w.heap.size rfl (.tmp 25) (.tmp 33) 22 5 (.int .u8 0) 1 rfl Try.underlying22 info5 rfl (by decide) (by omega) u7 x7_2 (rd_L2 l0_0 (ji13)) _ _ _ (fun _ => True) (fun _ => False) rfl rfl ?aO ?aR (fun _ _ h => h) (fun _ h => h.elim) ?aF ?aB ?aS ?aL ?_; (case aR => repeat (first | exact (Kd.C_below HR706_0.out HB.out) | (with_reducible refine Kd.C_alloc ?_ _) | (with_reducible refine Kd.C_drewN ?_ _) | (with_reducible refine Kd.C_drew ?_))); (case aB => exact (by repeat (first | (with_reducible first | exact HB.out | apply below_alloc | apply pw_below_drewN | apply below_drew1 | refine below_set ?_ GE699.out) | exact HB.out))); (case aF => exact (fun _ _ => trivial)); (case aO => exact (by (with_reducible repeat (first | apply Kd.R_alloc | apply Kd.R_drewN | apply Kd.R_drew)); exact HO_7.out)); (case aS => exact (below_size (by repeat (first | (with_reducible first | exact HB.out | apply below_alloc | apply pw_below_drewN | apply below_drew1 | refine below_set ?_ GE699.out) | exact HB.out)))); (case aL => have := LMc16.out; omega); intro v708 w18 ho hb hg hat; rw [← Ny707.out] at ho; have n0_ := Aside0.mk (blk_grown (g := gb699) (o := .cells #[.slice (some ad706) l0_0.length c0_0] 163 (0, 0)) (by (with_reducible repeat (first | refine blk_drewN ?_ _ | refine blk_drew ?_ | refine blk_alloc ?_ _)); exact BK699.out) hg (Kd.R_ne HO_7.out BK699.out (by decide))); have n1_ := Aside0.mk (hb); have n2_ := Aside0.mk (ho); clear BK699; clear HB; clear HO_7; have BK699 := n0_; have HB := n1_; have HO709 := n2_; clear n0_ n1_ n2_; clear ho hb hg hat))
                    go_roundg k2
                    case measure => have := HJ2.out; have := HK2.out; omega
                    case rel => exact ⟨(y707), (wrap64 (x8_2 + 1)), (by first | rfl | (simp; done) | (simp [*]; done)), H', ⟨by have := HJ2.out; have := HK2.out; omega⟩, ⟨by (with_reducible repeat (first | apply Kd.R_alloc | apply Kd.R_drewN | apply Kd.R_drew)); exact HO709.out⟩, ⟨by (with_reducible repeat (first | refine blk_drewN ?_ _ | refine blk_drew ?_ | refine blk_alloc ?_ _)); exact BK699.out⟩, ⟨by repeat (first | (with_reducible first | exact HB.out | apply below_alloc | apply pw_below_drewN | apply below_drew1 | refine below_set ?_ GE699.out) | exact HB.out)⟩⟩
                  · rw [if_neg c16] at H
                    exact absurd H (by simp)
                · rw [if_neg c15] at H
                  exact absurd H (by simp)
              · rw [if_neg c14] at H
                exact absurd H (by simp)
            · rw [if_neg c12] at H
              have c12b0 : decide (x8_2 < 4) = false := decide_eq_false c12
              clear c12
              replace H := Option.bind_eq_some_iff.mp H
              obtain ⟨⟨t710, t711, t712⟩, A190, H⟩ := H
              replace H : (some (t710, t711, t712)) = some (r1, r2, r3) := H
              have A19 := Aside0.mk A190
              clear A190
              simp only [Option.some.injEq, Prod.mk.injEq] at H
              obtain ⟨rfl, rfl, rfl⟩ := H
              obtain ⟨Ao20, co20, eo20⟩ := Kd.R_slice HO_7.out
              subst eo20
              go_wp2_with (first | ((with_reducible refine gate_callee (f := 14) rfl ?_); refine goesL_ (some 37) rfl rfl Try.func14 (by kernel_rfl) rfl #[.int .i64 a1, .slice Ao20 x7_2.length co20] rfl (by (try simp only [List.map_toArray, List.map_cons, List.map_nil]); first | done | rfl | (simp only [List.length_drop, List.length_take]; rfl)) ?_; (with_reducible refine (spec_DecodePage.calls k2 a1 _ _ x7_2 t710 t711 t712 _ ?side1 ?side2 A19.out).mono ?_); (case side1 => repeat (first | exact (Kd.R_reads' HO_7.out).2.2 | (with_reducible refine Kd.C_alloc ?_ _) | (with_reducible refine Kd.C_drewN ?_ _) | (with_reducible refine Kd.C_drew ?_))); (case side2 => exact (Kd.R_reads' HO_7.out).2.1); rintro e w21 ⟨v713, rfl, ho0, hb⟩; refine ⟨_, rfl, ?_⟩; have n0_ := Aside0.mk (Kd.R_elder' (by (with_reducible repeat (first | apply Kd.R_alloc | apply Kd.R_drewN | apply Kd.R_drew)); exact HO_7.out) (Kd.R_base ho0) hb); have n1_ := Aside0.mk (Kd.R_lower (Kd.R_new' ho0 (Kd.R_lt (by (with_reducible repeat (first | apply Kd.R_alloc | apply Kd.R_drewN | apply Kd.R_drew)); exact HO_7.out))) (below_size (by repeat (first | (with_reducible first | exact HB.out | apply below_alloc | apply pw_below_drewN | apply below_drew1 | refine below_set ?_ GE699.out) | exact HB.out)))); have n2_ := Aside0.mk (blk_below (g := gb699) (o := .cells #[.slice A0_0 l0_0.length c0_0] 163 (0, 0)) (by (with_reducible repeat (first | refine blk_drewN ?_ _ | refine blk_drew ?_ | refine blk_alloc ?_ _)); exact BK699.out) hb); have n3_ := Aside0.mk (below_step (by repeat (first | (with_reducible first | exact HB.out | apply below_alloc | apply pw_below_drewN | apply below_drew1 | refine below_set ?_ GE699.out) | exact HB.out)) hb); clear HO_7; clear BK699; clear HB; have HO_7 := n0_; have HO714 := n1_; have BK699 := n2_; have HB := n3_; clear n0_ n1_ n2_ n3_; (try clear hb); (try clear hb2); (try clear hk); (try clear hi); (try clear ho0)))
              go_ret3
              exact ⟨_, by first | rfl | (simp [errW_none, errW_some] <;> rfl) | (simp [*, errW_none, errW_some] <;> rfl), by (with_reducible repeat (first | apply Kd.R_alloc | apply Kd.R_drewN | apply Kd.R_drew)); exact Kd.R_mono HO714.out (fun _ hk => trivial), by repeat (first | (with_reducible first | exact HB.out | apply below_alloc | apply pw_below_drewN | apply below_drew1 | refine below_set ?_ GE699.out) | exact HB.out)⟩

end Go.Proofs.Ytlopmffdebhpfaa.G

/-! ## G148 -/
namespace Go.Proofs.Ytlopmffdebhpfaa.G
open Go.RowKit Go.Proofs.YtlopmffdebhpfaaW.PrintWords Go.Proofs.YtlopmffdebhpfaaW.PrintLast Go.Proofs.YtlopmffdebhpfaaW.PrintMore
attribute [local go_sem] max2_int min2_int max_two min_two max_three min_three max_four min_four
set_option linter.unusedVariables false
set_option linter.unusedSimpArgs false

/-! ### spec_l2SuperOk: function 148 -/
def spec_l2SuperOk.f (a0_0 : Int) (a0_1 : Int) (a0_2 : Int) (a0_3 : Int) : Option (Bool) := if a0_0 < 1 then (some false) else (if a0_0 > 1000000000000 then (some false) else (if a0_2 < 2 then (some false) else (if a0_2 > 1024 then (some false) else (if a0_1 = 0 then (if a0_3 = 0 then (some true) else (if a0_3 ≥ 2 then (some (decide (a0_3 < a0_2))) else (some false))) else (if a0_1 ≥ 2 then (if a0_1 < a0_2 then (if a0_3 = 0 then (some true) else (if a0_3 ≥ 2 then (some (decide (a0_3 < a0_2))) else (some false))) else (some false)) else (some false))))))
set_option maxHeartbeats 8000000 in
set_option maxRecDepth 100000 in
theorem spec_l2SuperOk.calls (a0_0 : Int) (a0_1 : Int) (a0_2 : Int) (a0_3 : Int) (r : Bool) (w : World) (h : spec_l2SuperOk.f a0_0 a0_1 a0_2 a0_3 = some r) :
    Calls Try.prog 148 #[.agg #[.int .i64 a0_0, .int .i64 a0_1, .int .i64 a0_2, .int .i64 a0_3]] w fun e w' => e = .returned (.bool r) ∧ Below w.heap.size w w' := by
  have hu81 := Try.underlying81
  have HB := Aside0.mk (Below.refl w.heap.size w)
  have H : (if a0_0 < 1 then (some false) else (if a0_0 > 1000000000000 then (some false) else (if a0_2 < 2 then (some false) else (if a0_2 > 1024 then (some false) else (if a0_1 = 0 then (if a0_3 = 0 then (some true) else (if a0_3 ≥ 2 then (some (decide (a0_3 < a0_2))) else (some false))) else (if a0_1 ≥ 2 then (if a0_1 < a0_2 then (if a0_3 = 0 then (some true) else (if a0_3 ≥ 2 then (some (decide (a0_3 < a0_2))) else (some false))) else (some false)) else (some false))))))) = some r := h
  clear h
  by_cases c2 : a0_0 < 1
  · rw [if_pos c2] at H
    have c2b0 : decide (a0_0 < 1) = true := decide_eq_true c2
    clear c2
    obtain rfl := Option.some.inj H
    go_enter Try.func148, Try.ntmps148
    go_wp2_with (first | ((with_reducible refine gate_dst (N := 1) rfl ?_); refine box_event ?hg (N := 1) ?hd (cs := #[.int .i64 a0_0, .int .i64 a0_1, .int .i64 a0_2, .int .i64 a0_3]) (t := 81) ?hr ?_; (case hd => rfl); (case hg => rfl); (case hr => first | (go_simp; done) | (go_simp; rfl)); intro gb594 hg w3 hbox hb; have n0_ := Aside0.mk (below_step (by repeat (first | (with_reducible first | exact HB.out | apply below_alloc | apply pw_below_drewN | apply below_drew1) | exact HB.out)) hb); have n1_ := Aside0.mk (hbox); have n2_ := Aside0.mk ((by rw [hg]; exact (below_size (by repeat (first | (with_reducible first | exact HB.out | apply below_alloc | apply pw_below_drewN | apply below_drew1) | exact HB.out))) : w.heap.size ≤ gb594)); have n3_ := Aside0.mk ((by rw [hg]; exact (below_size (by repeat (first | (with_reducible first | exact HB.out | apply below_alloc | apply pw_below_drewN | apply below_drew1) | exact HB.out))) : w.heap.size ≤ gb594)); clear HB; have HB := n0_; have BK594 := n1_; have GW594 := n2_; have GE594 := n3_; clear n0_ n1_ n2_ n3_; clear hb hbox hg; have hcz4_0 : w3.cell? ⟨gb594, 0, none⟩ = some (.int .i64 a0_0) := (blk_cell BK594.out 0).trans rfl; have hcz4_1 : w3.cell? ⟨gb594, 1, none⟩ = some (.int .i64 a0_1) := (blk_cell BK594.out 1).trans rfl; have hcz4_2 : w3.cell? ⟨gb594, 2, none⟩ = some (.int .i64 a0_2) := (blk_cell BK594.out 2).trans rfl; have hcz4_3 : w3.cell? ⟨gb594, 3, none⟩ = some (.int .i64 a0_3) := (blk_cell BK594.out 3).trans rfl; have hfz4_0 := blk_frozen BK594.out 0; have hfz4_1 := blk_frozen BK594.out 1; have hfz4_2 := blk_frozen BK594.out 2; have hfz4_3 := blk_frozen BK594.out 3))
    go_ret
    exact ⟨by first | rfl | (simp [errW_none, errW_some] <;> rfl) | (simp [*, errW_none, errW_some] <;> rfl), by repeat (first | (with_reducible first | exact HB.out | apply below_alloc | apply pw_below_drewN | apply below_drew1 | refine below_set ?_ GE594.out) | exact HB.out)⟩
  · rw [if_neg c2] at H
    have c2b0 : decide (a0_0 < 1) = false := decide_eq_false c2
    clear c2
    by_cases c5 : a0_0 > 1000000000000
    · rw [if_pos c5] at H
      have c5b0 : decide (1000000000000 < a0_0) = true := decide_eq_true c5
      clear c5
      obtain rfl := Option.some.inj H
      go_enter Try.func148, Try.ntmps148
      go_wp2_with (first | ((with_reducible refine gate_dst (N := 1) rfl ?_); refine box_event ?hg (N := 1) ?hd (cs := #[.int .i64 a0_0, .int .i64 a0_1, .int .i64 a0_2, .int .i64 a0_3]) (t := 81) ?hr ?_; (case hd => rfl); (case hg => rfl); (case hr => first | (go_simp; done) | (go_simp; rfl)); intro gb594 hg w6 hbox hb; have n0_ := Aside0.mk (below_step (by repeat (first | (with_reducible first | exact HB.out | apply below_alloc | apply pw_below_drewN | apply below_drew1) | exact HB.out)) hb); have n1_ := Aside0.mk (hbox); have n2_ := Aside0.mk ((by rw [hg]; exact (below_size (by repeat (first | (with_reducible first | exact HB.out | apply below_alloc | apply pw_below_drewN | apply below_drew1) | exact HB.out))) : w.heap.size ≤ gb594)); have n3_ := Aside0.mk ((by rw [hg]; exact (below_size (by repeat (first | (with_reducible first | exact HB.out | apply below_alloc | apply pw_below_drewN | apply below_drew1) | exact HB.out))) : w.heap.size ≤ gb594)); clear HB; have HB := n0_; have BK594 := n1_; have GW594 := n2_; have GE594 := n3_; clear n0_ n1_ n2_ n3_; clear hb hbox hg; have hcz7_0 : w6.cell? ⟨gb594, 0, none⟩ = some (.int .i64 a0_0) := (blk_cell BK594.out 0).trans rfl; have hcz7_1 : w6.cell? ⟨gb594, 1, none⟩ = some (.int .i64 a0_1) := (blk_cell BK594.out 1).trans rfl; have hcz7_2 : w6.cell? ⟨gb594, 2, none⟩ = some (.int .i64 a0_2) := (blk_cell BK594.out 2).trans rfl; have hcz7_3 : w6.cell? ⟨gb594, 3, none⟩ = some (.int .i64 a0_3) := (blk_cell BK594.out 3).trans rfl; have hfz7_0 := blk_frozen BK594.out 0; have hfz7_1 := blk_frozen BK594.out 1; have hfz7_2 := blk_frozen BK594.out 2; have hfz7_3 := blk_frozen BK594.out 3))
      go_ret
      exact ⟨by first | rfl | (simp [errW_none, errW_some] <;> rfl) | (simp [*, errW_none, errW_some] <;> rfl), by repeat (first | (with_reducible first | exact HB.out | apply below_alloc | apply pw_below_drewN | apply below_drew1 | refine below_set ?_ GE594.out) | exact HB.out)⟩
    · rw [if_neg c5] at H
      have c5b0 : decide (1000000000000 < a0_0) = false := decide_eq_false c5
      clear c5
      by_cases c8 : a0_2 < 2
      · rw [if_pos c8] at H
        have c8b0 : decide (a0_2 < 2) = true := decide_eq_true c8
        clear c8
        obtain rfl := Option.some.inj H
        go_enter Try.func148, Try.ntmps148
        go_wp2_with (first | ((with_reducible refine gate_dst (N := 1) rfl ?_); refine box_event ?hg (N := 1) ?hd (cs := #[.int .i64 a0_0, .int .i64 a0_1, .int .i64 a0_2, .int .i64 a0_3]) (t := 81) ?hr ?_; (case hd => rfl); (case hg => rfl); (case hr => first | (go_simp; done) | (go_simp; rfl)); intro gb594 hg w9 hbox hb; have n0_ := Aside0.mk (below_step (by repeat (first | (with_reducible first | exact HB.out | apply below_alloc | apply pw_below_drewN | apply below_drew1) | exact HB.out)) hb); have n1_ := Aside0.mk (hbox); have n2_ := Aside0.mk ((by rw [hg]; exact (below_size (by repeat (first | (with_reducible first | exact HB.out | apply below_alloc | apply pw_below_drewN | apply below_drew1) | exact HB.out))) : w.heap.size ≤ gb594)); have n3_ := Aside0.mk ((by rw [hg]; exact (below_size (by repeat (first | (with_reducible first | exact HB.out | apply below_alloc | apply pw_below_drewN | apply below_drew1) | exact HB.out))) : w.heap.size ≤ gb594)); clear HB; have HB := n0_; have BK594 := n1_; have GW594 := n2_; have GE594 := n3_; clear n0_ n1_ n2_ n3_; clear hb hbox hg; have hcz10_0 : w9.cell? ⟨gb594, 0, none⟩ = some (.int .i64 a0_0) := (blk_cell BK594.out 0).trans rfl; have hcz10_1 : w9.cell? ⟨gb594, 1, none⟩ = some (.int .i64 a0_1) := (blk_cell BK594.out 1).trans rfl; have hcz10_2 : w9.cell? ⟨gb594, 2, none⟩ = some (.int .i64 a0_2) := (blk_cell BK594.out 2).trans rfl; have hcz10_3 : w9.cell? ⟨gb594, 3, none⟩ = some (.int .i64 a0_3) := (blk_cell BK594.out 3).trans rfl; have hfz10_0 := blk_frozen BK594.out 0; have hfz10_1 := blk_frozen BK594.out 1; have hfz10_2 := blk_frozen BK594.out 2; have hfz10_3 := blk_frozen BK594.out 3))
        go_ret
        exact ⟨by first | rfl | (simp [errW_none, errW_some] <;> rfl) | (simp [*, errW_none, errW_some] <;> rfl), by repeat (first | (with_reducible first | exact HB.out | apply below_alloc | apply pw_below_drewN | apply below_drew1 | refine below_set ?_ GE594.out) | exact HB.out)⟩
      · rw [if_neg c8] at H
        have c8b0 : decide (a0_2 < 2) = false := decide_eq_false c8
        clear c8
        by_cases c11 : a0_2 > 1024
        · rw [if_pos c11] at H
          have c11b0 : decide (1024 < a0_2) = true := decide_eq_true c11
          clear c11
          obtain rfl := Option.some.inj H
          go_enter Try.func148, Try.ntmps148
          go_wp2_with (first | ((with_reducible refine gate_dst (N := 1) rfl ?_); refine box_event ?hg (N := 1) ?hd (cs := #[.int .i64 a0_0, .int .i64 a0_1, .int .i64 a0_2, .int .i64 a0_3]) (t := 81) ?hr ?_; (case hd => rfl); (case hg => rfl); (case hr => first | (go_simp; done) | (go_simp; rfl)); intro gb594 hg w12 hbox hb; have n0_ := Aside0.mk (below_step (by repeat (first | (with_reducible first | exact HB.out | apply below_alloc | apply pw_below_drewN | apply below_drew1) | exact HB.out)) hb); have n1_ := Aside0.mk (hbox); have n2_ := Aside0.mk ((by rw [hg]; exact (below_size (by repeat (first | (with_reducible first | exact HB.out | apply below_alloc | apply pw_below_drewN | apply below_drew1) | exact HB.out))) : w.heap.size ≤ gb594)); have n3_ := Aside0.mk ((by rw [hg]; exact (below_size (by repeat (first | (with_reducible first | exact HB.out | apply below_alloc | apply pw_below_drewN | apply below_drew1) | exact HB.out))) : w.heap.size ≤ gb594)); clear HB; have HB := n0_; have BK594 := n1_; have GW594 := n2_; have GE594 := n3_; clear n0_ n1_ n2_ n3_; clear hb hbox hg; have hcz13_0 : w12.cell? ⟨gb594, 0, none⟩ = some (.int .i64 a0_0) := (blk_cell BK594.out 0).trans rfl; have hcz13_1 : w12.cell? ⟨gb594, 1, none⟩ = some (.int .i64 a0_1) := (blk_cell BK594.out 1).trans rfl; have hcz13_2 : w12.cell? ⟨gb594, 2, none⟩ = some (.int .i64 a0_2) := (blk_cell BK594.out 2).trans rfl; have hcz13_3 : w12.cell? ⟨gb594, 3, none⟩ = some (.int .i64 a0_3) := (blk_cell BK594.out 3).trans rfl; have hfz13_0 := blk_frozen BK594.out 0; have hfz13_1 := blk_frozen BK594.out 1; have hfz13_2 := blk_frozen BK594.out 2; have hfz13_3 := blk_frozen BK594.out 3))
          go_ret
          exact ⟨by first | rfl | (simp [errW_none, errW_some] <;> rfl) | (simp [*, errW_none, errW_some] <;> rfl), by repeat (first | (with_reducible first | exact HB.out | apply below_alloc | apply pw_below_drewN | apply below_drew1 | refine below_set ?_ GE594.out) | exact HB.out)⟩
        · rw [if_neg c11] at H
          have c11b0 : decide (1024 < a0_2) = false := decide_eq_false c11
          clear c11
          by_cases c14 : a0_1 = 0
          · rw [if_pos c14] at H
            have c14b0 : (a0_1 == 0) = true := beq_iff_eq.mpr c14
            have c14b1 : (a0_1 != 0) = false := bne_eq_false_iff_eq.mpr c14
            clear c14
            by_cases c15 : a0_3 = 0
            · rw [if_pos c15] at H
              have c15b0 : (a0_3 == 0) = true := beq_iff_eq.mpr c15
              have c15b1 : (a0_3 != 0) = false := bne_eq_false_iff_eq.mpr c15
              clear c15
              obtain rfl := Option.some.inj H
              go_enter Try.func148, Try.ntmps148
              go_wp2_with (first | ((with_reducible refine gate_dst (N := 1) rfl ?_); refine box_event ?hg (N := 1) ?hd (cs := #[.int .i64 a0_0, .int .i64 a0_1, .int .i64 a0_2, .int .i64 a0_3]) (t := 81) ?hr ?_; (case hd => rfl); (case hg => rfl); (case hr => first | (go_simp; done) | (go_simp; rfl)); intro gb594 hg w16 hbox hb; have n0_ := Aside0.mk (below_step (by repeat (first | (with_reducible first | exact HB.out | apply below_alloc | apply pw_below_drewN | apply below_drew1) | exact HB.out)) hb); have n1_ := Aside0.mk (hbox); have n2_ := Aside0.mk ((by rw [hg]; exact (below_size (by repeat (first | (with_reducible first | exact HB.out | apply below_alloc | apply pw_below_drewN | apply below_drew1) | exact HB.out))) : w.heap.size ≤ gb594)); have n3_ := Aside0.mk ((by rw [hg]; exact (below_size (by repeat (first | (with_reducible first | exact HB.out | apply below_alloc | apply pw_below_drewN | apply below_drew1) | exact HB.out))) : w.heap.size ≤ gb594)); clear HB; have HB := n0_; have BK594 := n1_; have GW594 := n2_; have GE594 := n3_; clear n0_ n1_ n2_ n3_; clear hb hbox hg; have hcz17_0 : w16.cell? ⟨gb594, 0, none⟩ = some (.int .i64 a0_0) := (blk_cell BK594.out 0).trans rfl; have hcz17_1 : w16.cell? ⟨gb594, 1, none⟩ = some (.int .i64 a0_1) := (blk_cell BK594.out 1).trans rfl; have hcz17_2 : w16.cell? ⟨gb594, 2, none⟩ = some (.int .i64 a0_2) := (blk_cell BK594.out 2).trans rfl; have hcz17_3 : w16.cell? ⟨gb594, 3, none⟩ = some (.int .i64 a0_3) := (blk_cell BK594.out 3).trans rfl; have hfz17_0 := blk_frozen BK594.out 0; have hfz17_1 := blk_frozen BK594.out 1; have hfz17_2 := blk_frozen BK594.out 2; have hfz17_3 := blk_frozen BK594.out 3))
              go_ret
              exact ⟨by first | rfl | (simp [errW_none, errW_some] <;> rfl) | (simp [*, errW_none, errW_some] <;> rfl), by repeat (first | (with_reducible first | exact HB.out | apply below_alloc | apply pw_below_drewN | apply below_drew1 | refine below_set ?_ GE594.out) | exact HB.out)⟩
            · rw [if_neg c15] at H
              have c15b0 : (a0_3 == 0) = false := beq_eq_false_iff_ne.mpr c15
              have c15b1 : (a0_3 != 0) = true := bne_iff_ne.mpr c15
              by_cases c18 : a0_3 ≥ 2
              · rw [if_pos c18] at H
                have c18b0 : decide (2 ≤ a0_3) = true := decide_eq_true c18
                clear c18
                obtain rfl := Option.some.inj H
                go_enter Try.func148, Try.ntmps148
                go_wp2_with (first | ((with_reducible refine gate_dst (N := 1) rfl ?_); refine box_event ?hg (N := 1) ?hd (cs := #[.int .i64 a0_0, .int .i64 a0_1, .int .i64 a0_2, .int .i64 a0_3]) (t := 81) ?hr ?_; (case hd => rfl); (case hg => rfl); (case hr => first | (go_simp; done) | (go_simp; rfl)); intro gb594 hg w19 hbox hb; have n0_ := Aside0.mk (below_step (by repeat (first | (with_reducible first | exact HB.out | apply below_alloc | apply pw_below_drewN | apply below_drew1) | exact HB.out)) hb); have n1_ := Aside0.mk (hbox); have n2_ := Aside0.mk ((by rw [hg]; exact (below_size (by repeat (first | (with_reducible first | exact HB.out | apply below_alloc | apply pw_below_drewN | apply below_drew1) | exact HB.out))) : w.heap.size ≤ gb594)); have n3_ := Aside0.mk ((by rw [hg]; exact (below_size (by repeat (first | (with_reducible first | exact HB.out | apply below_alloc | apply pw_below_drewN | apply below_drew1) | exact HB.out))) : w.heap.size ≤ gb594)); clear HB; have HB := n0_; have BK594 := n1_; have GW594 := n2_; have GE594 := n3_; clear n0_ n1_ n2_ n3_; clear hb hbox hg; have hcz20_0 : w19.cell? ⟨gb594, 0, none⟩ = some (.int .i64 a0_0) := (blk_cell BK594.out 0).trans rfl; have hcz20_1 : w19.cell? ⟨gb594, 1, none⟩ = some (.int .i64 a0_1) := (blk_cell BK594.out 1).trans rfl; have hcz20_2 : w19.cell? ⟨gb594, 2, none⟩ = some (.int .i64 a0_2) := (blk_cell BK594.out 2).trans rfl; have hcz20_3 : w19.cell? ⟨gb594, 3, none⟩ = some (.int .i64 a0_3) := (blk_cell BK594.out 3).trans rfl; have hfz20_0 := blk_frozen BK594.out 0; have hfz20_1 := blk_frozen BK594.out 1; have hfz20_2 := blk_frozen BK594.out 2; have hfz20_3 := blk_frozen BK594.out 3))
                go_ret
                exact ⟨by first | rfl | (simp [errW_none, errW_some] <;> rfl) | (simp [*, errW_none, errW_some] <;> rfl), by repeat (first | (with_reducible first | exact HB.out | apply below_alloc | apply pw_below_drewN | apply below_drew1 | refine below_set ?_ GE594.out) | exact HB.out)⟩
              · rw [if_neg c18] at H
                have c18b0 : decide (2 ≤ a0_3) = false := decide_eq_false c18
                clear c18
                obtain rfl := Option.some.inj H
                go_enter Try.func148, Try.ntmps148
                go_wp2_with (first | ((with_reducible refine gate_dst (N := 1) rfl ?_); refine box_event ?hg (N := 1) ?hd (cs := #[.int .i64 a0_0, .int .i64 a0_1, .int .i64 a0_2, .int .i64 a0_3]) (t := 81) ?hr ?_; (case hd => rfl); (case hg => rfl); (case hr => first | (go_simp; done) | (go_simp; rfl)); intro gb594 hg w21 hbox hb; have n0_ := Aside0.mk (below_step (by repeat (first | (with_reducible first | exact HB.out | apply below_alloc | apply pw_below_drewN | apply below_drew1) | exact HB.out)) hb); have n1_ := Aside0.mk (hbox); have n2_ := Aside0.mk ((by rw [hg]; exact (below_size (by repeat (first | (with_reducible first | exact HB.out | apply below_alloc | apply pw_below_drewN | apply below_drew1) | exact HB.out))) : w.heap.size ≤ gb594)); have n3_ := Aside0.mk ((by rw [hg]; exact (below_size (by repeat (first | (with_reducible first | exact HB.out | apply below_alloc | apply pw_below_drewN | apply below_drew1) | exact HB.out))) : w.heap.size ≤ gb594)); clear HB; have HB := n0_; have BK594 := n1_; have GW594 := n2_; have GE594 := n3_; clear n0_ n1_ n2_ n3_; clear hb hbox hg; have hcz22_0 : w21.cell? ⟨gb594, 0, none⟩ = some (.int .i64 a0_0) := (blk_cell BK594.out 0).trans rfl; have hcz22_1 : w21.cell? ⟨gb594, 1, none⟩ = some (.int .i64 a0_1) := (blk_cell BK594.out 1).trans rfl; have hcz22_2 : w21.cell? ⟨gb594, 2, none⟩ = some (.int .i64 a0_2) := (blk_cell BK594.out 2).trans rfl; have hcz22_3 : w21.cell? ⟨gb594, 3, none⟩ = some (.int .i64 a0_3) := (blk_cell BK594.out 3).trans rfl; have hfz22_0 := blk_frozen BK594.out 0; have hfz22_1 := blk_frozen BK594.out 1; have hfz22_2 := blk_frozen BK594.out 2; have hfz22_3 := blk_frozen BK594.out 3))
                go_ret
                exact ⟨by first | rfl | (simp [errW_none, errW_some] <;> rfl) | (simp [*, errW_none, errW_some] <;> rfl), by repeat (first | (with_reducible first | exact HB.out | apply below_alloc | apply pw_below_drewN | apply below_drew1 | refine below_set ?_ GE594.out) | exact HB.out)⟩
          · rw [if_neg c14] at H
            have c14b0 : (a0_1 == 0) = false := beq_eq_false_iff_ne.mpr c14
            have c14b1 : (a0_1 != 0) = true := bne_iff_ne.mpr c14
            by_cases c23 : a0_1 ≥ 2
            · rw [if_pos c23] at H
              have c23b0 : decide (2 ≤ a0_1) = true := decide_eq_true c23
              clear c23
              by_cases c24 : a0_1 < a0_2
              · rw [if_pos c24] at H
                have c24b0 : decide (a0_1 < a0_2) = true := decide_eq_true c24
                clear c24
                by_cases c25 : a0_3 = 0
                · rw [if_pos c25] at H
                  have c25b0 : (a0_3 == 0) = true := beq_iff_eq.mpr c25
                  have c25b1 : (a0_3 != 0) = false := bne_eq_false_iff_eq.mpr c25
                  clear c25
                  obtain rfl := Option.some.inj H
                  go_enter Try.func148, Try.ntmps148
                  go_wp2_with (first | ((with_reducible refine gate_dst (N := 1) rfl ?_); refine box_event ?hg (N := 1) ?hd (cs := #[.int .i64 a0_0, .int .i64 a0_1, .int .i64 a0_2, .int .i64 a0_3]) (t := 81) ?hr ?_; (case hd => rfl); (case hg => rfl); (case hr => first | (go_simp; done) | (go_simp; rfl)); intro gb594 hg w26 hbox hb; have n0_ := Aside0.mk (below_step (by repeat (first | (with_reducible first | exact HB.out | apply below_alloc | apply pw_below_drewN | apply below_drew1) | exact HB.out)) hb); have n1_ := Aside0.mk (hbox); have n2_ := Aside0.mk ((by rw [hg]; exact (below_size (by repeat (first | (with_reducible first | exact HB.out | apply below_alloc | apply pw_below_drewN | apply below_drew1) | exact HB.out))) : w.heap.size ≤ gb594)); have n3_ := Aside0.mk ((by rw [hg]; exact (below_size (by repeat (first | (with_reducible first | exact HB.out | apply below_alloc | apply pw_below_drewN | apply below_drew1) | exact HB.out))) : w.heap.size ≤ gb594)); clear HB; have HB := n0_; have BK594 := n1_; have GW594 := n2_; have GE594 := n3_; clear n0_ n1_ n2_ n3_; clear hb hbox hg; have hcz27_0 : w26.cell? ⟨gb594, 0, none⟩ = some (.int .i64 a0_0) := (blk_cell BK594.out 0).trans rfl; have hcz27_1 : w26.cell? ⟨gb594, 1, none⟩ = some (.int .i64 a0_1) := (blk_cell BK594.out 1).trans rfl; have hcz27_2 : w26.cell? ⟨gb594, 2, none⟩ = some (.int .i64 a0_2) := (blk_cell BK594.out 2).trans rfl; have hcz27_3 : w26.cell? ⟨gb594, 3, none⟩ = some (.int .i64 a0_3) := (blk_cell BK594.out 3).trans rfl; have hfz27_0 := blk_frozen BK594.out 0; have hfz27_1 := blk_frozen BK594.out 1; have hfz27_2 := blk_frozen BK594.out 2; have hfz27_3 := blk_frozen BK594.out 3))
                  go_ret
                  exact ⟨by first | rfl | (simp [errW_none, errW_some] <;> rfl) | (simp [*, errW_none, errW_some] <;> rfl), by repeat (first | (with_reducible first | exact HB.out | apply below_alloc | apply pw_below_drewN | apply below_drew1 | refine below_set ?_ GE594.out) | exact HB.out)⟩
                · rw [if_neg c25] at H
                  have c25b0 : (a0_3 == 0) = false := beq_eq_false_iff_ne.mpr c25
                  have c25b1 : (a0_3 != 0) = true := bne_iff_ne.mpr c25
                  by_cases c28 : a0_3 ≥ 2
                  · rw [if_pos c28] at H
                    have c28b0 : decide (2 ≤ a0_3) = true := decide_eq_true c28
                    clear c28
                    obtain rfl := Option.some.inj H
                    go_enter Try.func148, Try.ntmps148
                    go_wp2_with (first | ((with_reducible refine gate_dst (N := 1) rfl ?_); refine box_event ?hg (N := 1) ?hd (cs := #[.int .i64 a0_0, .int .i64 a0_1, .int .i64 a0_2, .int .i64 a0_3]) (t := 81) ?hr ?_; (case hd => rfl); (case hg => rfl); (case hr => first | (go_simp; done) | (go_simp; rfl)); intro gb594 hg w29 hbox hb; have n0_ := Aside0.mk (below_step (by repeat (first | (with_reducible first | exact HB.out | apply below_alloc | apply pw_below_drewN | apply below_drew1) | exact HB.out)) hb); have n1_ := Aside0.mk (hbox); have n2_ := Aside0.mk ((by rw [hg]; exact (below_size (by repeat (first | (with_reducible first | exact HB.out | apply below_alloc | apply pw_below_drewN | apply below_drew1) | exact HB.out))) : w.heap.size ≤ gb594)); have n3_ := Aside0.mk ((by rw [hg]; exact (below_size (by repeat (first | (with_reducible first | exact HB.out | apply below_alloc | apply pw_below_drewN | apply below_drew1) | exact HB.out))) : w.heap.size ≤ gb594)); clear HB; have HB := n0_; have BK594 := n1_; have GW594 := n2_; have GE594 := n3_; clear n0_ n1_ n2_ n3_; clear hb hbox hg; have hcz30_0 : w29.cell? ⟨gb594, 0, none⟩ = some (.int .i64 a0_0) := (blk_cell BK594.out 0).trans rfl; have hcz30_1 : w29.cell? ⟨gb594, 1, none⟩ = some (.int .i64 a0_1) := (blk_cell BK594.out 1).trans rfl; have hcz30_2 : w29.cell? ⟨gb594, 2, none⟩ = some (.int .i64 a0_2) := (blk_cell BK594.out 2).trans rfl; have hcz30_3 : w29.cell? ⟨gb594, 3, none⟩ = some (.int .i64 a0_3) := (blk_cell BK594.out 3).trans rfl; have hfz30_0 := blk_frozen BK594.out 0; have hfz30_1 := blk_frozen BK594.out 1; have hfz30_2 := blk_frozen BK594.out 2; have hfz30_3 := blk_frozen BK594.out 3))
                    go_ret
                    exact ⟨by first | rfl | (simp [errW_none, errW_some] <;> rfl) | (simp [*, errW_none, errW_some] <;> rfl), by repeat (first | (with_reducible first | exact HB.out | apply below_alloc | apply pw_below_drewN | apply below_drew1 | refine below_set ?_ GE594.out) | exact HB.out)⟩
                  · rw [if_neg c28] at H
                    have c28b0 : decide (2 ≤ a0_3) = false := decide_eq_false c28
                    clear c28
                    obtain rfl := Option.some.inj H
                    go_enter Try.func148, Try.ntmps148
                    go_wp2_with (first | ((with_reducible refine gate_dst (N := 1) rfl ?_); refine box_event ?hg (N := 1) ?hd (cs := #[.int .i64 a0_0, .int .i64 a0_1, .int .i64 a0_2, .int .i64 a0_3]) (t := 81) ?hr ?_; (case hd => rfl); (case hg => rfl); (case hr => first | (go_simp; done) | (go_simp; rfl)); intro gb594 hg w31 hbox hb; have n0_ := Aside0.mk (below_step (by repeat (first | (with_reducible first | exact HB.out | apply below_alloc | apply pw_below_drewN | apply below_drew1) | exact HB.out)) hb); have n1_ := Aside0.mk (hbox); have n2_ := Aside0.mk ((by rw [hg]; exact (below_size (by repeat (first | (with_reducible first | exact HB.out | apply below_alloc | apply pw_below_drewN | apply below_drew1) | exact HB.out))) : w.heap.size ≤ gb594)); have n3_ := Aside0.mk ((by rw [hg]; exact (below_size (by repeat (first | (with_reducible first | exact HB.out | apply below_alloc | apply pw_below_drewN | apply below_drew1) | exact HB.out))) : w.heap.size ≤ gb594)); clear HB; have HB := n0_; have BK594 := n1_; have GW594 := n2_; have GE594 := n3_; clear n0_ n1_ n2_ n3_; clear hb hbox hg; have hcz32_0 : w31.cell? ⟨gb594, 0, none⟩ = some (.int .i64 a0_0) := (blk_cell BK594.out 0).trans rfl; have hcz32_1 : w31.cell? ⟨gb594, 1, none⟩ = some (.int .i64 a0_1) := (blk_cell BK594.out 1).trans rfl; have hcz32_2 : w31.cell? ⟨gb594, 2, none⟩ = some (.int .i64 a0_2) := (blk_cell BK594.out 2).trans rfl; have hcz32_3 : w31.cell? ⟨gb594, 3, none⟩ = some (.int .i64 a0_3) := (blk_cell BK594.out 3).trans rfl; have hfz32_0 := blk_frozen BK594.out 0; have hfz32_1 := blk_frozen BK594.out 1; have hfz32_2 := blk_frozen BK594.out 2; have hfz32_3 := blk_frozen BK594.out 3))
                    go_ret
                    exact ⟨by first | rfl | (simp [errW_none, errW_some] <;> rfl) | (simp [*, errW_none, errW_some] <;> rfl), by repeat (first | (with_reducible first | exact HB.out | apply below_alloc | apply pw_below_drewN | apply below_drew1 | refine below_set ?_ GE594.out) | exact HB.out)⟩
              · rw [if_neg c24] at H
                have c24b0 : decide (a0_1 < a0_2) = false := decide_eq_false c24
                clear c24
                obtain rfl := Option.some.inj H
                go_enter Try.func148, Try.ntmps148
                go_wp2_with (first | ((with_reducible refine gate_dst (N := 1) rfl ?_); refine box_event ?hg (N := 1) ?hd (cs := #[.int .i64 a0_0, .int .i64 a0_1, .int .i64 a0_2, .int .i64 a0_3]) (t := 81) ?hr ?_; (case hd => rfl); (case hg => rfl); (case hr => first | (go_simp; done) | (go_simp; rfl)); intro gb594 hg w33 hbox hb; have n0_ := Aside0.mk (below_step (by repeat (first | (with_reducible first | exact HB.out | apply below_alloc | apply pw_below_drewN | apply below_drew1) | exact HB.out)) hb); have n1_ := Aside0.mk (hbox); have n2_ := Aside0.mk ((by rw [hg]; exact (below_size (by repeat (first | (with_reducible first | exact HB.out | apply below_alloc | apply pw_below_drewN | apply below_drew1) | exact HB.out))) : w.heap.size ≤ gb594)); have n3_ := Aside0.mk ((by rw [hg]; exact (below_size (by repeat (first | (with_reducible first | exact HB.out | apply below_alloc | apply pw_below_drewN | apply below_drew1) | exact HB.out))) : w.heap.size ≤ gb594)); clear HB; have HB := n0_; have BK594 := n1_; have GW594 := n2_; have GE594 := n3_; clear n0_ n1_ n2_ n3_; clear hb hbox hg; have hcz34_0 : w33.cell? ⟨gb594, 0, none⟩ = some (.int .i64 a0_0) := (blk_cell BK594.out 0).trans rfl; have hcz34_1 : w33.cell? ⟨gb594, 1, none⟩ = some (.int .i64 a0_1) := (blk_cell BK594.out 1).trans rfl; have hcz34_2 : w33.cell? ⟨gb594, 2, none⟩ = some (.int .i64 a0_2) := (blk_cell BK594.out 2).trans rfl; have hcz34_3 : w33.cell? ⟨gb594, 3, none⟩ = some (.int .i64 a0_3) := (blk_cell BK594.out 3).trans rfl; have hfz34_0 := blk_frozen BK594.out 0; have hfz34_1 := blk_frozen BK594.out 1; have hfz34_2 := blk_frozen BK594.out 2; have hfz34_3 := blk_frozen BK594.out 3))
                go_ret
                exact ⟨by first | rfl | (simp [errW_none, errW_some] <;> rfl) | (simp [*, errW_none, errW_some] <;> rfl), by repeat (first | (with_reducible first | exact HB.out | apply below_alloc | apply pw_below_drewN | apply below_drew1 | refine below_set ?_ GE594.out) | exact HB.out)⟩
            · rw [if_neg c23] at H
              have c23b0 : decide (2 ≤ a0_1) = false := decide_eq_false c23
              clear c23
              obtain rfl := Option.some.inj H
              go_enter Try.func148, Try.ntmps148
              go_wp2_with (first | ((with_reducible refine gate_dst (N := 1) rfl ?_); refine box_event ?hg (N := 1) ?hd (cs := #[.int .i64 a0_0, .int .i64 a0_1, .int .i64 a0_2, .int .i64 a0_3]) (t := 81) ?hr ?_; (case hd => rfl); (case hg => rfl); (case hr => first | (go_simp; done) | (go_simp; rfl)); intro gb594 hg w35 hbox hb; have n0_ := Aside0.mk (below_step (by repeat (first | (with_reducible first | exact HB.out | apply below_alloc | apply pw_below_drewN | apply below_drew1) | exact HB.out)) hb); have n1_ := Aside0.mk (hbox); have n2_ := Aside0.mk ((by rw [hg]; exact (below_size (by repeat (first | (with_reducible first | exact HB.out | apply below_alloc | apply pw_below_drewN | apply below_drew1) | exact HB.out))) : w.heap.size ≤ gb594)); have n3_ := Aside0.mk ((by rw [hg]; exact (below_size (by repeat (first | (with_reducible first | exact HB.out | apply below_alloc | apply pw_below_drewN | apply below_drew1) | exact HB.out))) : w.heap.size ≤ gb594)); clear HB; have HB := n0_; have BK594 := n1_; have GW594 := n2_; have GE594 := n3_; clear n0_ n1_ n2_ n3_; clear hb hbox hg; have hcz36_0 : w35.cell? ⟨gb594, 0, none⟩ = some (.int .i64 a0_0) := (blk_cell BK594.out 0).trans rfl; have hcz36_1 : w35.cell? ⟨gb594, 1, none⟩ = some (.int .i64 a0_1) := (blk_cell BK594.out 1).trans rfl; have hcz36_2 : w35.cell? ⟨gb594, 2, none⟩ = some (.int .i64 a0_2) := (blk_cell BK594.out 2).trans rfl; have hcz36_3 : w35.cell? ⟨gb594, 3, none⟩ = some (.int .i64 a0_3) := (blk_cell BK594.out 3).trans rfl; have hfz36_0 := blk_frozen BK594.out 0; have hfz36_1 := blk_frozen BK594.out 1; have hfz36_2 := blk_frozen BK594.out 2; have hfz36_3 := blk_frozen BK594.out 3))
              go_ret
              exact ⟨by first | rfl | (simp [errW_none, errW_some] <;> rfl) | (simp [*, errW_none, errW_some] <;> rfl), by repeat (first | (with_reducible first | exact HB.out | apply below_alloc | apply pw_below_drewN | apply below_drew1 | refine below_set ?_ GE594.out) | exact HB.out)⟩

end Go.Proofs.Ytlopmffdebhpfaa.G

/-! ## SuAt -/
namespace Go.Proofs.Ytlopmffdebhpfaa.G
open Go.RowKit Go.Proofs.YtlopmffdebhpfaaW.PrintWords Go.Proofs.YtlopmffdebhpfaaW.PrintLast Go.Proofs.YtlopmffdebhpfaaW.PrintMore
set_option linter.unusedVariables false
set_option linter.unusedSimpArgs false

def spec_l2SuperAt.f (k : Nat) (now : List (List Int)) (id : Int) : Option ((Int × Int × Int × Int) × Bool) :=
  (spec_l2View_page.f k now id).bind fun p => if p.2.2 = true then (if p.1 = 1 then (if p.2.1.length = 20 then (if rd p.2.1 7 = 0 then
    ((spec_l2Low.f k (p.2.1.take 7)).bind fun n0 => (spec_l2Low.f k ((p.2.1.take 12).drop 8)).bind fun n1 => (spec_l2Low.f k ((p.2.1.take 16).drop 12)).bind fun n2 => (spec_l2Low.f k ((p.2.1.take 20).drop 16)).bind fun n3 =>
      (spec_l2SuperOk.f n0 n1 n2 n3).bind fun ok => if ok = true then (if Int.tmod n0 2 = id then (if (now.length : Int) / 4 < n2 then some ((0, 0, 0, 0), false) else some ((n0, n1, n2, n3), true)) else some ((0, 0, 0, 0), false)) else some ((0, 0, 0, 0), false))
    else some ((0, 0, 0, 0), false)) else some ((0, 0, 0, 0), false)) else some ((0, 0, 0, 0), false)) else some ((0, 0, 0, 0), false)
def spec_l2SuperAt.T4 : Bool × List (List Nat × List Nat) := (true, [([], []), ([0], [0]), ([1], [1]), ([], []), ([3], [3]), ([4, 2], [4]), ([], []), ([6], [6]), ([7, 5], [7]), ([], []), ([9], [9]), ([10, 8], [10]), ([2, 5, 8, 11], [2, 5, 8, 11]), ([], []), ([13, 12, 11, 0, 1, 2, 3, 4, 5, 6, 7, 8, 9, 10, 11, 12, 13], [12, 13])])
def spec_l2SuperAt.B4 : List Nat := [0, 1, 3, 0, 8, 31, 0, 64, 255, 0, 512, 2047, 4095, 0, 16383]
theorem spec_l2SuperAt.tab4 : rtab .any (opsOf Try.f119 4) = spec_l2SuperAt.T4 := by kernel_rfl
theorem spec_l2SuperAt.bits4 : waitsOk spec_l2SuperAt.T4.2 spec_l2SuperAt.B4 = true := by kernel_rfl
set_option maxHeartbeats 8000000 in
set_option maxRecDepth 100000 in
theorem spec_l2SuperAt.calls (k : Nat) (A0 : Option Addr) (c0 : Nat) (now : List (List Int)) (id : Int) (r0 r1 r2 r3 : Int) (rb : Bool) (w : World) (hr0 : Kd.C (Kd.slice 5 (Kd.int .u8)) w A0 now.length now) (hc0 : now.length ≤ c0) (h : spec_l2SuperAt.f k now id = some ((r0, r1, r2, r3), rb)) :
    Calls Try.prog 119 #[.agg #[.slice A0 now.length c0], .int .i64 id] w fun e w' => e = .returned (.tuple #[.agg #[.int .i64 r0, .int .i64 r1, .int .i64 r2, .int .i64 r3], .bool rb]) ∧ Below w.heap.size w w' := by
  have hu163 := Try.underlying163
  have hu81 := Try.underlying81
  have hlen := hr0.2.1
  have HR0 := Aside0.mk hr0
  have HC0 := Aside0.mk hc0
  have HLN := Aside0.mk hlen
  unfold spec_l2SuperAt.f at h
  obtain ⟨⟨kind, body, ok⟩, H1, h⟩ := Option.bind_eq_some_iff.mp h
  have N1 := Aside0.mk H1
  have H := Aside0.mk h
  obtain ⟨i0, hi0, _, hsz0, _⟩ := info_parts info5
  have HI := Aside0.mk hi0
  have HZ := Aside0.mk hsz0
  clear hr0 hc0 H1 h hlen hi0 hsz0
  simp only at H
  go_enter Try.func119, Try.ntmps119
  go_wp2_with (first | ((with_reducible refine gate_dst (N := 2) rfl ?_); refine box_event ?hg (N := 2) ?hd (cs := #[.slice A0 now.length c0]) (t := 163) ?hr ?_; (case hd => rfl); (case hg => rfl); (case hr => first | (go_simp; done) | (go_simp; rfl)); intro gp hgr w1 hbox hbel; have BP := Aside0.mk hbox; have HB := Aside0.mk hbel; have hp0 : w1.cell? ⟨gp, 0, none⟩ = some (.slice A0 now.length c0) := (blk_cell hbox 0).trans rfl; clear hbox hbel hgr) | ((with_reducible refine gate_dst (N := 4) rfl ?_); refine box_event ?hg (N := 4) ?hd (cs := #[.int .i64 0, .int .i64 0, .int .i64 0, .int .i64 0]) (t := 81) ?hr ?_; (case hd => rfl); (case hg => rfl); (case hr => first | (go_simp; done) | (go_simp; rfl)); intro gr hgr w1b hbox hbel; have BR := Aside0.mk hbox; have GR : Aside0 (w.heap.size ≤ gr) := ⟨by rw [hgr]; exact HB.out.size⟩; have BP := Aside0.mk (blk_below BP.out hbel); have HB := Aside0.mk (below_step HB.out hbel); have hp0 : w1b.cell? ⟨gp, 0, none⟩ = some (.slice A0 now.length c0) := (blk_cell BP.out 0).trans rfl; clear hbox hbel hgr))
  refine (spec_l2View_page.calls k A0 c0 now id kind body ok _ (Kd.C_below HR0.out HB.out) HC0.out N1.out).mono ?_
  rintro e w3 ⟨v7, rfl, hv, hb⟩
  have BP := Aside0.mk (blk_below BP.out hb)
  have BR := Aside0.mk (blk_below BR.out hb)
  have HB := Aside0.mk (below_step HB.out hb)
  obtain ⟨A7, c7, rfl⟩ := Kd.R_slice hv
  have HC7 := Aside0.mk (Kd.R_reads' hv).2.2
  have HL7 := Aside0.mk (Kd.R_reads' hv).2.1
  clear hb hv hp0
  cases ok with
  | false =>
    have h := H.out
    rw [if_neg (by decide)] at h
    simp only [Option.some.injEq, Prod.mk.injEq] at h
    obtain ⟨⟨rfl, rfl, rfl, rfl⟩, rfl⟩ := h
    go_wp2_with (first | ((with_reducible refine gate_ (.store 81 (.tmp 4) (.tmp 34)) rfl ?_); refine store_blk rfl rfl 81 (.tmp 4) (.tmp 34) rfl (off := 0) (u := .agg #[.int .i64 0, .int .i64 0, .int .i64 0, .int .i64 0]) #[.int .i64 0, .int .i64 0, .int .i64 0, .int .i64 0] rfl rfl BR.out [.int .i64 0, .int .i64 0, .int .i64 0, .int .i64 0] rfl (by kernel_rfl) (Nat.le_of_ble_eq_true rfl) rfl rfl ?_; intro w9 hblk hgrw; have BR2 := Aside0.mk hblk; have HB2 := Aside0.mk (HB.out.grown hgrw HB.out.size (by intro q hq; cases hq; exact GR.out)); clear hblk hgrw))
    refine bodyPost_ret (results_cell_slot rfl _ _ gr 81 #[.int .i64 0, .int .i64 0, .int .i64 0, .int .i64 0] (0, 0) _ _ rfl rfl BR2.out Try.underlying81 rfl (by kernel_rfl)) rfl ?_
    exact ⟨rfl, HB2.out⟩
  | true =>
    have h := H.out
    rw [if_pos rfl] at h
    by_cases hk : kind = 1
    case neg =>
      rw [if_neg hk] at h
      simp only [Option.some.injEq, Prod.mk.injEq] at h
      obtain ⟨⟨rfl, rfl, rfl, rfl⟩, rfl⟩ := h
      have k1 : (kind != 1) = true := bne_iff_ne.mpr hk
      have k2 : (kind == 1) = false := beq_eq_false_iff_ne.mpr hk
      go_wp2_with (first | ((with_reducible refine gate_ (.store 81 (.tmp 4) (.tmp 34)) rfl ?_); refine store_blk rfl rfl 81 (.tmp 4) (.tmp 34) rfl (off := 0) (u := .agg #[.int .i64 0, .int .i64 0, .int .i64 0, .int .i64 0]) #[.int .i64 0, .int .i64 0, .int .i64 0, .int .i64 0] rfl rfl BR.out [.int .i64 0, .int .i64 0, .int .i64 0, .int .i64 0] rfl (by kernel_rfl) (Nat.le_of_ble_eq_true rfl) rfl rfl ?_; intro w9 hblk hgrw; have BR2 := Aside0.mk hblk; have HB2 := Aside0.mk (HB.out.grown hgrw HB.out.size (by intro q hq; cases hq; exact GR.out)); clear hblk hgrw))
      refine bodyPost_ret (results_cell_slot rfl _ _ gr 81 #[.int .i64 0, .int .i64 0, .int .i64 0, .int .i64 0] (0, 0) _ _ rfl rfl BR2.out Try.underlying81 rfl (by kernel_rfl)) rfl ?_
      exact ⟨rfl, HB2.out⟩
    rw [if_pos hk] at h
    have k1 : (kind != 1) = false := bne_eq_false_iff_eq.mpr hk
    have k2 : (kind == 1) = true := beq_iff_eq.mpr hk
    clear hk
    by_cases h20 : body.length = 20
    case neg =>
      rw [if_neg h20] at h
      simp only [Option.some.injEq, Prod.mk.injEq] at h
      obtain ⟨⟨rfl, rfl, rfl, rfl⟩, rfl⟩ := h
      have k3 : ((body.length : Int) != 20) = true := bne_iff_ne.mpr (by omega)
      have k4 : ((body.length : Int) == 20) = false := beq_eq_false_iff_ne.mpr (by omega)
      go_wp2_with (first | ((with_reducible refine gate_ (.store 81 (.tmp 4) (.tmp 34)) rfl ?_); refine store_blk rfl rfl 81 (.tmp 4) (.tmp 34) rfl (off := 0) (u := .agg #[.int .i64 0, .int .i64 0, .int .i64 0, .int .i64 0]) #[.int .i64 0, .int .i64 0, .int .i64 0, .int .i64 0] rfl rfl BR.out [.int .i64 0, .int .i64 0, .int .i64 0, .int .i64 0] rfl (by kernel_rfl) (Nat.le_of_ble_eq_true rfl) rfl rfl ?_; intro w9 hblk hgrw; have BR2 := Aside0.mk hblk; have HB2 := Aside0.mk (HB.out.grown hgrw HB.out.size (by intro q hq; cases hq; exact GR.out)); clear hblk hgrw))
      refine bodyPost_ret (results_cell_slot rfl _ _ gr 81 #[.int .i64 0, .int .i64 0, .int .i64 0, .int .i64 0] (0, 0) _ _ rfl rfl BR2.out Try.underlying81 rfl (by kernel_rfl)) rfl ?_
      exact ⟨rfl, HB2.out⟩
    rw [if_pos h20] at h
    have k3 : ((body.length : Int) != 20) = false := bne_eq_false_iff_eq.mpr (by omega)
    have k4 : ((body.length : Int) == 20) = true := beq_iff_eq.mpr (by omega)
    have q8a : decide (7 < (body.length : Int)) = true := decide_eq_true (by omega)
    have q8b : decide (7 < body.length) = true := decide_eq_true (by omega)
    have q8c : (7 < body.length) = True := eq_true (by omega)
    have q8d : ((7 : Int) < (body.length : Int)) = True := eq_true (by omega)
    obtain ⟨ad, rfl, hx7⟩ := Kd.at_int HC7.out 7 (by omega) (by omega)
    (try simp only [show (7 : Int).toNat = 7 from rfl, Nat.reduceMul, Nat.reduceEqDiff, Go.Addr.add, ↓reduceIte] at hx7)
    by_cases h7 : rd body 7 = 0
    case neg =>
      rw [if_neg h7] at h
      simp only [Option.some.injEq, Prod.mk.injEq] at h
      obtain ⟨⟨rfl, rfl, rfl, rfl⟩, rfl⟩ := h
      have k5 : (rd body 7 != 0) = true := bne_iff_ne.mpr h7
      have k6 : (rd body 7 == 0) = false := beq_eq_false_iff_ne.mpr h7
      go_wp2_with (first | ((with_reducible refine gate_ (.store 81 (.tmp 4) (.tmp 34)) rfl ?_); refine store_blk rfl rfl 81 (.tmp 4) (.tmp 34) rfl (off := 0) (u := .agg #[.int .i64 0, .int .i64 0, .int .i64 0, .int .i64 0]) #[.int .i64 0, .int .i64 0, .int .i64 0, .int .i64 0] rfl rfl BR.out [.int .i64 0, .int .i64 0, .int .i64 0, .int .i64 0] rfl (by kernel_rfl) (Nat.le_of_ble_eq_true rfl) rfl rfl ?_; intro w9 hblk hgrw; have BR2 := Aside0.mk hblk; have HB2 := Aside0.mk (HB.out.grown hgrw HB.out.size (by intro q hq; cases hq; exact GR.out)); clear hblk hgrw))
      refine bodyPost_ret (results_cell_slot rfl _ _ gr 81 #[.int .i64 0, .int .i64 0, .int .i64 0, .int .i64 0] (0, 0) _ _ rfl rfl BR2.out Try.underlying81 rfl (by kernel_rfl)) rfl ?_
      exact ⟨rfl, HB2.out⟩
    rw [if_pos h7] at h
    have k5 : (rd body 7 != 0) = false := bne_eq_false_iff_eq.mpr h7
    have k6 : (rd body 7 == 0) = true := beq_iff_eq.mpr h7
    obtain ⟨n0, H3, h⟩ := Option.bind_eq_some_iff.mp h
    obtain ⟨n1, H4, h⟩ := Option.bind_eq_some_iff.mp h
    obtain ⟨n2, H5, h⟩ := Option.bind_eq_some_iff.mp h
    obtain ⟨n3, H6, h⟩ := Option.bind_eq_some_iff.mp h
    obtain ⟨ok2, H7, h⟩ := Option.bind_eq_some_iff.mp h
    have M0 := Aside0.mk H3
    have M1 := Aside0.mk H4
    have M2 := Aside0.mk H5
    have M3 := Aside0.mk H6
    have M4 := Aside0.mk H7
    have HH := Aside0.mk h
    have H20 := Aside0.mk h20
    clear H3 H4 H5 H6 H7 h h20 h7 H
    have hcuts : ∃ B1 B2 B3, (∀ W : World, (Instr.slice 22 (.slice (some ad) body.length c7) none (some (.int .i64 7)) none).run Try.prog W = .ok (.slice (some ad) 7 c7) W) ∧ (∀ W : World, (Instr.slice 22 (.slice (some ad) body.length c7) (some (.int .i64 8)) (some (.int .i64 12)) none).run Try.prog W = .ok (.slice B1 4 (c7 - 8)) W) ∧
        (∀ W : World, (Instr.slice 22 (.slice (some ad) body.length c7) (some (.int .i64 12)) (some (.int .i64 16)) none).run Try.prog W = .ok (.slice B2 4 (c7 - 12)) W) ∧ (∀ W : World, (Instr.slice 22 (.slice (some ad) body.length c7) (some (.int .i64 16)) (some (.int .i64 20)) none).run Try.prog W = .ok (.slice B3 4 (c7 - 16)) W) ∧
        Kd.C (Kd.int .u8) w3 (some ad) (body.take 7).length (body.take 7) ∧ Kd.C (Kd.int .u8) w3 B1 ((body.take 12).drop 8).length ((body.take 12).drop 8) ∧ Kd.C (Kd.int .u8) w3 B2 ((body.take 16).drop 12).length ((body.take 16).drop 12) ∧ Kd.C (Kd.int .u8) w3 B3 ((body.take 20).drop 16).length ((body.take 20).drop 16) := by
      have hn := H20.out
      refine ⟨_, _, _, fun W => ?_, cut_mid 22 5 .i64 .i64 Try.underlying22 HI.out 1 HZ.out (some ad) body.length c7 8 12 (by decide) (by decide) (by omega) HL7.out, cut_mid 22 5 .i64 .i64 Try.underlying22 HI.out 1 HZ.out (some ad) body.length c7 12 16 (by decide) (by decide) (by omega) HL7.out,
        cut_mid 22 5 .i64 .i64 Try.underlying22 HI.out 1 HZ.out (some ad) body.length c7 16 20 (by decide) (by decide) (by omega) HL7.out, Kd.C_take HC7.out (by omega), Kd.C_mid HC7.out (by decide) (by omega) HL7.out, Kd.C_mid HC7.out (by decide) (by omega) HL7.out, Kd.C_mid HC7.out (by decide) (by omega) HL7.out⟩
      have h1 := (print_take_int (P := Try.prog) (k := .u8) 22 5 Try.underlying22 HI.out HZ.out (some ad) c7 body 7 (by decide) (by omega) HL7.out).1 W
      rw [show (body.take (7 : Int).toNat).length = 7 by rw [List.length_take]; omega] at h1
      exact h1
    obtain ⟨B1, B2, B3, hcut1, hcut2, hcut3, hcut4, hq0, hq1, hq2, hq3⟩ := hcuts
    have HF0 := Aside0.mk hq0
    have HF1 := Aside0.mk hq1
    have HF2 := Aside0.mk hq2
    have HF3 := Aside0.mk hq3
    have HL0 : Aside0 ((body.take 7).length = 7) := ⟨by rw [List.length_take]; have := H20.out; omega⟩
    have HL1 : Aside0 (((body.take 12).drop 8).length = 4) := ⟨by rw [List.length_drop, List.length_take]; have := H20.out; omega⟩
    have HL2 : Aside0 (((body.take 16).drop 12).length = 4) := ⟨by rw [List.length_drop, List.length_take]; have := H20.out; omega⟩
    have HL3 : Aside0 (((body.take 20).drop 16).length = 4) := ⟨by rw [List.length_drop, List.length_take]; have := H20.out; omega⟩
    clear hq0 hq1 hq2 hq3
    go_wp2_with fail
    refine start_ (n := 15) (S := fun w' => (w'.heap[gp]? = some (.cells #[.slice A0 now.length c0] 163 (0, 0)) ∧ w'.heap[gr]? = some (.cells #[.int .i64 0, .int .i64 0, .int .i64 0, .int .i64 0] 81 (0, 0)) ∧ Below w.heap.size w w') ∧ Below w3.heap.size w3 w') (ds := [14]) #[false, false, false, false, false, false, false, false, false, false, false, false, false, false, false] (by kernel_rfl) rfl rfl (⟨⟨blk_drew BP.out, blk_drew BR.out, below_drew1 HB.out⟩, below_drew1 (Below.refl _ _)⟩) (fun hHeld => ?_); refine with_tabW spec_l2SuperAt.tab4 spec_l2SuperAt.bits4 (fun HT_ HW_ => ?_)
    refine pure_ (i := 0) (N := some 35) (v := ?_) (a' := ?_) #[true, false, false, false, false, false, false, false, false, false, false, false, false, false, false] rfl rfl (any_of HT_.out (by kernel_rfl)) (fun _ _ _ h => h) (Or.inl ⟨by rfl, ?_⟩) ?_ ?_
    rotate_left
    · intro w'
      go_simp
      with_reducible rfl
    rotate_left
    · simp only [Act.put, List.setIfInBounds_toArray, List.set_cons_zero, List.set_cons_succ, i64_w, i32_w]
      rfl
    refine pure_ (i := 1) (N := some 36) (v := ?_) (a' := ?_) #[true, true, false, false, false, false, false, false, false, false, false, false, false, false, false] rfl rfl (any_of HT_.out (by kernel_rfl)) (fun _ _ _ h => h) (Or.inl ⟨by rfl, ?_⟩) ?_ ?_
    rotate_left
    · intro w'
      go_simp
      with_reducible rfl
    rotate_left
    · simp only [Act.put, List.setIfInBounds_toArray, List.set_cons_zero, List.set_cons_succ, i64_w, i32_w]
      rfl
    refine pure_ (i := 3) (N := some 38) (v := ?_) (a' := ?_) #[true, true, false, true, false, false, false, false, false, false, false, false, false, false, false] rfl rfl (any_of HT_.out (by kernel_rfl)) (fun _ _ _ h => h) (Or.inl ⟨by rfl, ?_⟩) ?_ ?_
    rotate_left
    · intro w'
      go_simp
      with_reducible rfl
    rotate_left
    · simp only [Act.put, List.setIfInBounds_toArray, List.set_cons_zero, List.set_cons_succ, i64_w, i32_w]
      rfl
    refine pure_ (i := 4) (N := some 39) (v := ?_) (a' := ?_) #[true, true, false, true, true, false, false, false, false, false, false, false, false, false, false] rfl rfl (any_of HT_.out (by kernel_rfl)) (fun _ _ _ h => h) (Or.inl ⟨by rfl, ?_⟩) ?_ ?_
    rotate_left
    · intro w'
      go_simp
      with_reducible rfl
    rotate_left
    · simp only [Act.put, List.setIfInBounds_toArray, List.set_cons_zero, List.set_cons_succ, i64_w, i32_w]
      rfl
    refine pure_ (i := 6) (N := some 41) (v := ?_) (a' := ?_) #[true, true, false, true, true, false, true, false, false, false, false, false, false, false, false] rfl rfl (any_of HT_.out (by kernel_rfl)) (fun _ _ _ h => h) (Or.inl ⟨by rfl, ?_⟩) ?_ ?_
    rotate_left
    · intro w'
      go_simp
      with_reducible rfl
    rotate_left
    · simp only [Act.put, List.setIfInBounds_toArray, List.set_cons_zero, List.set_cons_succ, i64_w, i32_w]
      rfl
    refine pure_ (i := 7) (N := some 42) (v := ?_) (a' := ?_) #[true, true, false, true, true, false, true, true, false, false, false, false, false, false, false] rfl rfl (any_of HT_.out (by kernel_rfl)) (fun _ _ _ h => h) (Or.inl ⟨by rfl, ?_⟩) ?_ ?_
    rotate_left
    · intro w'
      go_simp
      with_reducible rfl
    rotate_left
    · simp only [Act.put, List.setIfInBounds_toArray, List.set_cons_zero, List.set_cons_succ, i64_w, i32_w]
      rfl
    refine pure_ (i := 9) (N := some 44) (v := ?_) (a' := ?_) #[true, true, false, true, true, false, true, true, false, true, false, false, false, false, false] rfl rfl (any_of HT_.out (by kernel_rfl)) (fun _ _ _ h => h) (Or.inl ⟨by rfl, ?_⟩) ?_ ?_
    rotate_left
    · intro w'
      go_simp
      with_reducible rfl
    rotate_left
    · simp only [Act.put, List.setIfInBounds_toArray, List.set_cons_zero, List.set_cons_succ, i64_w, i32_w]
      rfl
    refine pure_ (i := 10) (N := some 45) (v := ?_) (a' := ?_) #[true, true, false, true, true, false, true, true, false, true, true, false, false, false, false] rfl rfl (any_of HT_.out (by kernel_rfl)) (fun _ _ _ h => h) (Or.inl ⟨by rfl, ?_⟩) ?_ ?_
    rotate_left
    · intro w'
      go_simp
      with_reducible rfl
    rotate_left
    · simp only [Act.put, List.setIfInBounds_toArray, List.set_cons_zero, List.set_cons_succ, i64_w, i32_w]
      rfl
    refine join_ 1 #[true, true, true, true, true, true, true, true, true, true, true, true, true, true, false] (fun g8 : Nat => [(37, .int .i64 n0), (40, .int .i64 n1), (43, .int .i64 n2), (46, .int .i64 n3), (47, .agg #[.int .i64 n0, .int .i64 n1, .int .i64 n2, .int .i64 n3]), (9, .pointer (some ⟨g8, 0, none⟩))]) (fun g8 w' => w'.heap[g8]? = some (.cells #[.int .i64 0, .int .i64 0, .int .i64 0, .int .i64 0] 81 (0, 0)) ∧ (w'.heap[gp]? = some (.cells #[.slice A0 now.length c0] 163 (0, 0)) ∧ w'.heap[gr]? = some (.cells #[.int .i64 0, .int .i64 0, .int .i64 0, .int .i64 0] 81 (0, 0)) ∧ Below w.heap.size w w') ∧ w.heap.size ≤ g8 ∧ gp ≠ g8 ∧ gr ≠ g8) ?_ ?_
    rotate_left
    · intro hK0
      refine two_ (i := 2) (j := 13) (Ni := some 37) (Nj := some 9) #[true, true, true, true, true, false, true, true, false, true, true, false, false, false, false] #[true, true, false, true, true, false, true, true, false, true, true, false, false, true, false] rfl rfl rfl rfl (two_of HT_.out (by kernel_rfl)) (by decide) (by decide) (fun K hK => ?_) (fun K hK => ?_)
      · refine goes_ Try.func67 (by kernel_rfl) rfl #[.slice (some ad) 7 c7] (by rfl) rfl rfl (by first | rfl | (simp only [List.map_toArray, List.map_cons, List.map_nil]; first | done | rfl)) ?_
        have hcr := spec_l2Low.calls k (some ad) c7 (body.take 7) n0 _ (Kd.C_below HF0.out hHeld.2) (by have := HL0.out; have := HL7.out; have := H20.out; omega) M0.out
        rw [HL0.out] at hcr
        refine hcr.mono ?_
        clear hcr
        rintro e w9 ⟨rfl, hd9⟩
        refine ⟨_, rfl, ?_⟩
        have hb9 := hd9.below
        have S9 := Aside0.mk (show ((w9.heap[gp]? = some (.cells #[.slice A0 now.length c0] 163 (0, 0)) ∧ w9.heap[gr]? = some (.cells #[.int .i64 0, .int .i64 0, .int .i64 0, .int .i64 0] 81 (0, 0)) ∧ Below w.heap.size w w9) ∧ Below w3.heap.size w3 w9) from ⟨⟨blk_below hHeld.1.1 hb9, blk_below hHeld.1.2.1 hb9, below_step hHeld.1.2.2 hb9⟩, below_step hHeld.2 hb9⟩)
        clear hd9 hb9 hHeld
        refine hK.out _ _ (S9.out) (fun hHeld => ?_)
        clear hK K
        refine norm_ (a' := ?_) ?_ ?_
        rotate_left
        · show Act.put _ (some 37) _ = _
          simp only [Act.put, List.setIfInBounds_toArray, List.set_cons_zero, List.set_cons_succ, i64_w, i32_w]
          rfl
        refine two_ (i := 5) (j := 13) (Ni := some 40) (Nj := some 9) #[true, true, true, true, true, true, true, true, false, true, true, false, false, false, false] #[true, true, true, true, true, false, true, true, false, true, true, false, false, true, false] rfl rfl rfl rfl (two_of HT_.out (by kernel_rfl)) (by decide) (by decide) (fun K hK => ?_) (fun K hK => ?_)
        · refine goes_ Try.func67 (by kernel_rfl) rfl #[.slice B1 4 (c7 - 8)] (by rfl) rfl rfl (by first | rfl | (simp only [List.map_toArray, List.map_cons, List.map_nil]; first | done | rfl)) ?_
          have hcr := spec_l2Low.calls k B1 (c7 - 8) ((body.take 12).drop 8) n1 _ (Kd.C_below HF1.out hHeld.2) (by have := HL1.out; have := HL7.out; have := H20.out; omega) M1.out
          rw [HL1.out] at hcr
          refine hcr.mono ?_
          clear hcr
          rintro e w9 ⟨rfl, hd9⟩
          refine ⟨_, rfl, ?_⟩
          have hb9 := hd9.below
          have S9 := Aside0.mk (show ((w9.heap[gp]? = some (.cells #[.slice A0 now.length c0] 163 (0, 0)) ∧ w9.heap[gr]? = some (.cells #[.int .i64 0, .int .i64 0, .int .i64 0, .int .i64 0] 81 (0, 0)) ∧ Below w.heap.size w w9) ∧ Below w3.heap.size w3 w9) from ⟨⟨blk_below hHeld.1.1 hb9, blk_below hHeld.1.2.1 hb9, below_step hHeld.1.2.2 hb9⟩, below_step hHeld.2 hb9⟩)
          clear hd9 hb9 hHeld
          refine hK.out _ _ (S9.out) (fun hHeld => ?_)
          clear hK K
          refine norm_ (a' := ?_) ?_ ?_
          rotate_left
          · show Act.put _ (some 40) _ = _
            simp only [Act.put, List.setIfInBounds_toArray, List.set_cons_zero, List.set_cons_succ, i64_w, i32_w]
            rfl
          refine two_ (i := 8) (j := 13) (Ni := some 43) (Nj := some 9) #[true, true, true, true, true, true, true, true, true, true, true, false, false, false, false] #[true, true, true, true, true, true, true, true, false, true, true, false, false, true, false] rfl rfl rfl rfl (two_of HT_.out (by kernel_rfl)) (by decide) (by decide) (fun K hK => ?_) (fun K hK => ?_)
          · refine goes_ Try.func67 (by kernel_rfl) rfl #[.slice B2 4 (c7 - 12)] (by rfl) rfl rfl (by first | rfl | (simp only [List.map_toArray, List.map_cons, List.map_nil]; first | done | rfl)) ?_
            have hcr := spec_l2Low.calls k B2 (c7 - 12) ((body.take 16).drop 12) n2 _ (Kd.C_below HF2.out hHeld.2) (by have := HL2.out; have := HL7.out; have := H20.out; omega) M2.out
            rw [HL2.out] at hcr
            refine hcr.mono ?_
            clear hcr
            rintro e w9 ⟨rfl, hd9⟩
            refine ⟨_, rfl, ?_⟩
            have hb9 := hd9.below
            have S9 := Aside0.mk (show ((w9.heap[gp]? = some (.cells #[.slice A0 now.length c0] 163 (0, 0)) ∧ w9.heap[gr]? = some (.cells #[.int .i64 0, .int .i64 0, .int .i64 0, .int .i64 0] 81 (0, 0)) ∧ Below w.heap.size w w9) ∧ Below w3.heap.size w3 w9) from ⟨⟨blk_below hHeld.1.1 hb9, blk_below hHeld.1.2.1 hb9, below_step hHeld.1.2.2 hb9⟩, below_step hHeld.2 hb9⟩)
            clear hd9 hb9 hHeld
            refine hK.out _ _ (S9.out) (fun hHeld => ?_)
            clear hK K
            refine norm_ (a' := ?_) ?_ ?_
            rotate_left
            · show Act.put _ (some 43) _ = _
              simp only [Act.put, List.setIfInBounds_toArray, List.set_cons_zero, List.set_cons_succ, i64_w, i32_w]
              rfl
            refine two_ (i := 11) (j := 13) (Ni := some 46) (Nj := some 9) #[true, true, true, true, true, true, true, true, true, true, true, true, false, false, false] #[true, true, true, true, true, true, true, true, true, true, true, false, false, true, false] rfl rfl rfl rfl (two_of HT_.out (by kernel_rfl)) (by decide) (by decide) (fun K hK => ?_) (fun K hK => ?_)
            · refine goes_ Try.func67 (by kernel_rfl) rfl #[.slice B3 4 (c7 - 16)] (by rfl) rfl rfl (by first | rfl | (simp only [List.map_toArray, List.map_cons, List.map_nil]; first | done | rfl)) ?_
              have hcr := spec_l2Low.calls k B3 (c7 - 16) ((body.take 20).drop 16) n3 _ (Kd.C_below HF3.out hHeld.2) (by have := HL3.out; have := HL7.out; have := H20.out; omega) M3.out
              rw [HL3.out] at hcr
              refine hcr.mono ?_
              clear hcr
              rintro e w9 ⟨rfl, hd9⟩
              refine ⟨_, rfl, ?_⟩
              have hb9 := hd9.below
              have S9 := Aside0.mk (show ((w9.heap[gp]? = some (.cells #[.slice A0 now.length c0] 163 (0, 0)) ∧ w9.heap[gr]? = some (.cells #[.int .i64 0, .int .i64 0, .int .i64 0, .int .i64 0] 81 (0, 0)) ∧ Below w.heap.size w w9) ∧ Below w3.heap.size w3 w9) from ⟨⟨blk_below hHeld.1.1 hb9, blk_below hHeld.1.2.1 hb9, below_step hHeld.1.2.2 hb9⟩, below_step hHeld.2 hb9⟩)
              clear hd9 hb9 hHeld
              refine hK.out _ _ (S9.out) (fun hHeld => ?_)
              clear hK K
              refine norm_ (a' := ?_) ?_ ?_
              rotate_left
              · show Act.put _ (some 46) _ = _
                simp only [Act.put, List.setIfInBounds_toArray, List.set_cons_zero, List.set_cons_succ, i64_w, i32_w]
                rfl
              refine pure_ (i := 12) (N := some 47) (v := ?_) (a' := ?_) #[true, true, true, true, true, true, true, true, true, true, true, true, true, false, false] rfl rfl (any_of HT_.out (by kernel_rfl)) (fun _ _ _ h => h) (Or.inl ⟨by rfl, ?_⟩) ?_ ?_
              rotate_left
              · intro w'
                go_simp
                with_reducible rfl
              rotate_left
              · simp only [Act.put, List.setIfInBounds_toArray, List.set_cons_zero, List.set_cons_succ, i64_w, i32_w]
                rfl
              refine one_ (i := 13) (N := some 9) #[true, true, true, true, true, true, true, true, true, true, true, true, true, true, false] rfl rfl (one_of HT_.out (by kernel_rfl)) (by decide) (fun K hK => ?_)
              refine box_step (by rfl) (N := 9) rfl (cs := #[.int .i64 0, .int .i64 0, .int .i64 0, .int .i64 0]) (t := 81) ?hr ?_
              case hr => first | (go_simp; done) | (go_simp; rfl)
              intro g8 hgr w10 hbox hb9
              have S9 := Aside0.mk (show ((w10.heap[gp]? = some (.cells #[.slice A0 now.length c0] 163 (0, 0)) ∧ w10.heap[gr]? = some (.cells #[.int .i64 0, .int .i64 0, .int .i64 0, .int .i64 0] 81 (0, 0)) ∧ Below w.heap.size w w10) ∧ Below w3.heap.size w3 w10) from ⟨⟨blk_below hHeld.1.1 hb9, blk_below hHeld.1.2.1 hb9, below_step hHeld.1.2.2 hb9⟩, below_step hHeld.2 hb9⟩)
              have B8 := Aside0.mk hbox
              have G8 : Aside0 (w.heap.size ≤ g8 ∧ gp ≠ g8 ∧ gr ≠ g8) := ⟨by rw [hgr]; exact hHeld.1.2.2.size, by have := blk_lt hHeld.1.1; omega, by have := blk_lt hHeld.1.2.1; omega⟩
              clear hbox hb9 hgr hHeld
              refine hK.out _ _ S9.out (fun hHeld => ?_)
              clear hK K
              exact hK0 g8 _ ⟨B8.out, hHeld.1, G8.out.1, G8.out.2.1, G8.out.2.2⟩
            · refine box_step (by rfl) (N := 9) rfl (cs := #[.int .i64 0, .int .i64 0, .int .i64 0, .int .i64 0]) (t := 81) ?hr ?_
              case hr => first | (go_simp; done) | (go_simp; rfl)
              intro g8 hgr w10 hbox hb9
              have S9 := Aside0.mk (show ((w10.heap[gp]? = some (.cells #[.slice A0 now.length c0] 163 (0, 0)) ∧ w10.heap[gr]? = some (.cells #[.int .i64 0, .int .i64 0, .int .i64 0, .int .i64 0] 81 (0, 0)) ∧ Below w.heap.size w w10) ∧ Below w3.heap.size w3 w10) from ⟨⟨blk_below hHeld.1.1 hb9, blk_below hHeld.1.2.1 hb9, below_step hHeld.1.2.2 hb9⟩, below_step hHeld.2 hb9⟩)
              have B8 := Aside0.mk hbox
              have G8 : Aside0 (w.heap.size ≤ g8 ∧ gp ≠ g8 ∧ gr ≠ g8) := ⟨by rw [hgr]; exact hHeld.1.2.2.size, by have := blk_lt hHeld.1.1; omega, by have := blk_lt hHeld.1.2.1; omega⟩
              clear hbox hb9 hgr hHeld
              refine hK.out _ _ (S9.out) (fun hHeld => ?_)
              clear hK K
              refine norm_ (a' := ?_) ?_ ?_
              rotate_left
              · show Act.put _ (some 9) _ = _
                simp only [Act.put, List.setIfInBounds_toArray, List.set_cons_zero, List.set_cons_succ, i64_w, i32_w]
                rfl
              refine one_ (i := 11) (N := some 46) #[true, true, true, true, true, true, true, true, true, true, true, true, false, true, false] rfl rfl (one_of HT_.out (by kernel_rfl)) (by decide) (fun K hK => ?_)
              refine goes_ Try.func67 (by kernel_rfl) rfl #[.slice B3 4 (c7 - 16)] (by rfl) rfl rfl (by first | rfl | (simp only [List.map_toArray, List.map_cons, List.map_nil]; first | done | rfl)) ?_
              have hcr := spec_l2Low.calls k B3 (c7 - 16) ((body.take 20).drop 16) n3 _ (Kd.C_below HF3.out hHeld.2) (by have := HL3.out; have := HL7.out; have := H20.out; omega) M3.out
              rw [HL3.out] at hcr
              refine hcr.mono ?_
              clear hcr
              rintro e w9 ⟨rfl, hd9⟩
              refine ⟨_, rfl, ?_⟩
              have hb9 := hd9.below
              have S9 := Aside0.mk (show ((w9.heap[gp]? = some (.cells #[.slice A0 now.length c0] 163 (0, 0)) ∧ w9.heap[gr]? = some (.cells #[.int .i64 0, .int .i64 0, .int .i64 0, .int .i64 0] 81 (0, 0)) ∧ Below w.heap.size w w9) ∧ Below w3.heap.size w3 w9) from ⟨⟨blk_below hHeld.1.1 hb9, blk_below hHeld.1.2.1 hb9, below_step hHeld.1.2.2 hb9⟩, below_step hHeld.2 hb9⟩)
              have B8 := Aside0.mk (blk_below B8.out hb9)
              clear hd9 hb9 hHeld
              refine hK.out _ _ (S9.out) (fun hHeld => ?_)
              clear hK K
              refine norm_ (a' := ?_) ?_ ?_
              rotate_left
              · show Act.put _ (some 46) _ = _
                simp only [Act.put, List.setIfInBounds_toArray, List.set_cons_zero, List.set_cons_succ, i64_w, i32_w]
                rfl
              refine pure_ (i := 12) (N := some 47) (v := ?_) (a' := ?_) #[true, true, true, true, true, true, true, true, true, true, true, true, true, true, false] rfl rfl (any_of HT_.out (by kernel_rfl)) (fun _ _ _ h => h) (Or.inl ⟨by rfl, ?_⟩) ?_ ?_
              rotate_left
              · intro w'
                go_simp
                with_reducible rfl
              rotate_left
              · simp only [Act.put, List.setIfInBounds_toArray, List.set_cons_zero, List.set_cons_succ, i64_w, i32_w]
                rfl
              exact hK0 g8 _ ⟨B8.out, hHeld.1, G8.out.1, G8.out.2.1, G8.out.2.2⟩
          · refine box_step (by rfl) (N := 9) rfl (cs := #[.int .i64 0, .int .i64 0, .int .i64 0, .int .i64 0]) (t := 81) ?hr ?_
            case hr => first | (go_simp; done) | (go_simp; rfl)
            intro g8 hgr w10 hbox hb9
            have S9 := Aside0.mk (show ((w10.heap[gp]? = some (.cells #[.slice A0 now.length c0] 163 (0, 0)) ∧ w10.heap[gr]? = some (.cells #[.int .i64 0, .int .i64 0, .int .i64 0, .int .i64 0] 81 (0, 0)) ∧ Below w.heap.size w w10) ∧ Below w3.heap.size w3 w10) from ⟨⟨blk_below hHeld.1.1 hb9, blk_below hHeld.1.2.1 hb9, below_step hHeld.1.2.2 hb9⟩, below_step hHeld.2 hb9⟩)
            have B8 := Aside0.mk hbox
            have G8 : Aside0 (w.heap.size ≤ g8 ∧ gp ≠ g8 ∧ gr ≠ g8) := ⟨by rw [hgr]; exact hHeld.1.2.2.size, by have := blk_lt hHeld.1.1; omega, by have := blk_lt hHeld.1.2.1; omega⟩
            clear hbox hb9 hgr hHeld
            refine hK.out _ _ (S9.out) (fun hHeld => ?_)
            clear hK K
            refine norm_ (a' := ?_) ?_ ?_
            rotate_left
            · show Act.put _ (some 9) _ = _
              simp only [Act.put, List.setIfInBounds_toArray, List.set_cons_zero, List.set_cons_succ, i64_w, i32_w]
              rfl
            refine one_ (i := 8) (N := some 43) #[true, true, true, true, true, true, true, true, true, true, true, false, false, true, false] rfl rfl (one_of HT_.out (by kernel_rfl)) (by decide) (fun K hK => ?_)
            refine goes_ Try.func67 (by kernel_rfl) rfl #[.slice B2 4 (c7 - 12)] (by rfl) rfl rfl (by first | rfl | (simp only [List.map_toArray, List.map_cons, List.map_nil]; first | done | rfl)) ?_
            have hcr := spec_l2Low.calls k B2 (c7 - 12) ((body.take 16).drop 12) n2 _ (Kd.C_below HF2.out hHeld.2) (by have := HL2.out; have := HL7.out; have := H20.out; omega) M2.out
            rw [HL2.out] at hcr
            refine hcr.mono ?_
            clear hcr
            rintro e w9 ⟨rfl, hd9⟩
            refine ⟨_, rfl, ?_⟩
            have hb9 := hd9.below
            have S9 := Aside0.mk (show ((w9.heap[gp]? = some (.cells #[.slice A0 now.length c0] 163 (0, 0)) ∧ w9.heap[gr]? = some (.cells #[.int .i64 0, .int .i64 0, .int .i64 0, .int .i64 0] 81 (0, 0)) ∧ Below w.heap.size w w9) ∧ Below w3.heap.size w3 w9) from ⟨⟨blk_below hHeld.1.1 hb9, blk_below hHeld.1.2.1 hb9, below_step hHeld.1.2.2 hb9⟩, below_step hHeld.2 hb9⟩)
            have B8 := Aside0.mk (blk_below B8.out hb9)
            clear hd9 hb9 hHeld
            refine hK.out _ _ (S9.out) (fun hHeld => ?_)
            clear hK K
            refine norm_ (a' := ?_) ?_ ?_
            rotate_left
            · show Act.put _ (some 43) _ = _
              simp only [Act.put, List.setIfInBounds_toArray, List.set_cons_zero, List.set_cons_succ, i64_w, i32_w]
              rfl
            refine one_ (i := 11) (N := some 46) #[true, true, true, true, true, true, true, true, true, true, true, true, false, true, false] rfl rfl (one_of HT_.out (by kernel_rfl)) (by decide) (fun K hK => ?_)
            refine goes_ Try.func67 (by kernel_rfl) rfl #[.slice B3 4 (c7 - 16)] (by rfl) rfl rfl (by first | rfl | (simp only [List.map_toArray, List.map_cons, List.map_nil]; first | done | rfl)) ?_
            have hcr := spec_l2Low.calls k B3 (c7 - 16) ((body.take 20).drop 16) n3 _ (Kd.C_below HF3.out hHeld.2) (by have := HL3.out; have := HL7.out; have := H20.out; omega) M3.out
            rw [HL3.out] at hcr
            refine hcr.mono ?_
            clear hcr
            rintro e w9 ⟨rfl, hd9⟩
            refine ⟨_, rfl, ?_⟩
            have hb9 := hd9.below
            have S9 := Aside0.mk (show ((w9.heap[gp]? = some (.cells #[.slice A0 now.length c0] 163 (0, 0)) ∧ w9.heap[gr]? = some (.cells #[.int .i64 0, .int .i64 0, .int .i64 0, .int .i64 0] 81 (0, 0)) ∧ Below w.heap.size w w9) ∧ Below w3.heap.size w3 w9) from ⟨⟨blk_below hHeld.1.1 hb9, blk_below hHeld.1.2.1 hb9, below_step hHeld.1.2.2 hb9⟩, below_step hHeld.2 hb9⟩)
            have B8 := Aside0.mk (blk_below B8.out hb9)
            clear hd9 hb9 hHeld
            refine hK.out _ _ (S9.out) (fun hHeld => ?_)
            clear hK K
            refine norm_ (a' := ?_) ?_ ?_
            rotate_left
            · show Act.put _ (some 46) _ = _
              simp only [Act.put, List.setIfInBounds_toArray, List.set_cons_zero, List.set_cons_succ, i64_w, i32_w]
              rfl
            refine pure_ (i := 12) (N := some 47) (v := ?_) (a' := ?_) #[true, true, true, true, true, true, true, true, true, true, true, true, true, true, false] rfl rfl (any_of HT_.out (by kernel_rfl)) (fun _ _ _ h => h) (Or.inl ⟨by rfl, ?_⟩) ?_ ?_
            rotate_left
            · intro w'
              go_simp
              with_reducible rfl
            rotate_left
            · simp only [Act.put, List.setIfInBounds_toArray, List.set_cons_zero, List.set_cons_succ, i64_w, i32_w]
              rfl
            exact hK0 g8 _ ⟨B8.out, hHeld.1, G8.out.1, G8.out.2.1, G8.out.2.2⟩
        · refine box_step (by rfl) (N := 9) rfl (cs := #[.int .i64 0, .int .i64 0, .int .i64 0, .int .i64 0]) (t := 81) ?hr ?_
          case hr => first | (go_simp; done) | (go_simp; rfl)
          intro g8 hgr w10 hbox hb9
          have S9 := Aside0.mk (show ((w10.heap[gp]? = some (.cells #[.slice A0 now.length c0] 163 (0, 0)) ∧ w10.heap[gr]? = some (.cells #[.int .i64 0, .int .i64 0, .int .i64 0, .int .i64 0] 81 (0, 0)) ∧ Below w.heap.size w w10) ∧ Below w3.heap.size w3 w10) from ⟨⟨blk_below hHeld.1.1 hb9, blk_below hHeld.1.2.1 hb9, below_step hHeld.1.2.2 hb9⟩, below_step hHeld.2 hb9⟩)
          have B8 := Aside0.mk hbox
          have G8 : Aside0 (w.heap.size ≤ g8 ∧ gp ≠ g8 ∧ gr ≠ g8) := ⟨by rw [hgr]; exact hHeld.1.2.2.size, by have := blk_lt hHeld.1.1; omega, by have := blk_lt hHeld.1.2.1; omega⟩
          clear hbox hb9 hgr hHeld
          refine hK.out _ _ (S9.out) (fun hHeld => ?_)
          clear hK K
          refine norm_ (a' := ?_) ?_ ?_
          rotate_left
          · show Act.put _ (some 9) _ = _
            simp only [Act.put, List.setIfInBounds_toArray, List.set_cons_zero, List.set_cons_succ, i64_w, i32_w]
            rfl
          refine one_ (i := 5) (N := some 40) #[true, true, true, true, true, true, true, true, false, true, true, false, false, true, false] rfl rfl (one_of HT_.out (by kernel_rfl)) (by decide) (fun K hK => ?_)
          refine goes_ Try.func67 (by kernel_rfl) rfl #[.slice B1 4 (c7 - 8)] (by rfl) rfl rfl (by first | rfl | (simp only [List.map_toArray, List.map_cons, List.map_nil]; first | done | rfl)) ?_
          have hcr := spec_l2Low.calls k B1 (c7 - 8) ((body.take 12).drop 8) n1 _ (Kd.C_below HF1.out hHeld.2) (by have := HL1.out; have := HL7.out; have := H20.out; omega) M1.out
          rw [HL1.out] at hcr
          refine hcr.mono ?_
          clear hcr
          rintro e w9 ⟨rfl, hd9⟩
          refine ⟨_, rfl, ?_⟩
          have hb9 := hd9.below
          have S9 := Aside0.mk (show ((w9.heap[gp]? = some (.cells #[.slice A0 now.length c0] 163 (0, 0)) ∧ w9.heap[gr]? = some (.cells #[.int .i64 0, .int .i64 0, .int .i64 0, .int .i64 0] 81 (0, 0)) ∧ Below w.heap.size w w9) ∧ Below w3.heap.size w3 w9) from ⟨⟨blk_below hHeld.1.1 hb9, blk_below hHeld.1.2.1 hb9, below_step hHeld.1.2.2 hb9⟩, below_step hHeld.2 hb9⟩)
          have B8 := Aside0.mk (blk_below B8.out hb9)
          clear hd9 hb9 hHeld
          refine hK.out _ _ (S9.out) (fun hHeld => ?_)
          clear hK K
          refine norm_ (a' := ?_) ?_ ?_
          rotate_left
          · show Act.put _ (some 40) _ = _
            simp only [Act.put, List.setIfInBounds_toArray, List.set_cons_zero, List.set_cons_succ, i64_w, i32_w]
            rfl
          refine one_ (i := 8) (N := some 43) #[true, true, true, true, true, true, true, true, true, true, true, false, false, true, false] rfl rfl (one_of HT_.out (by kernel_rfl)) (by decide) (fun K hK => ?_)
          refine goes_ Try.func67 (by kernel_rfl) rfl #[.slice B2 4 (c7 - 12)] (by rfl) rfl rfl (by first | rfl | (simp only [List.map_toArray, List.map_cons, List.map_nil]; first | done | rfl)) ?_
          have hcr := spec_l2Low.calls k B2 (c7 - 12) ((body.take 16).drop 12) n2 _ (Kd.C_below HF2.out hHeld.2) (by have := HL2.out; have := HL7.out; have := H20.out; omega) M2.out
          rw [HL2.out] at hcr
          refine hcr.mono ?_
          clear hcr
          rintro e w9 ⟨rfl, hd9⟩
          refine ⟨_, rfl, ?_⟩
          have hb9 := hd9.below
          have S9 := Aside0.mk (show ((w9.heap[gp]? = some (.cells #[.slice A0 now.length c0] 163 (0, 0)) ∧ w9.heap[gr]? = some (.cells #[.int .i64 0, .int .i64 0, .int .i64 0, .int .i64 0] 81 (0, 0)) ∧ Below w.heap.size w w9) ∧ Below w3.heap.size w3 w9) from ⟨⟨blk_below hHeld.1.1 hb9, blk_below hHeld.1.2.1 hb9, below_step hHeld.1.2.2 hb9⟩, below_step hHeld.2 hb9⟩)
          have B8 := Aside0.mk (blk_below B8.out hb9)
          clear hd9 hb9 hHeld
          refine hK.out _ _ (S9.out) (fun hHeld => ?_)
          clear hK K
          refine norm_ (a' := ?_) ?_ ?_
          rotate_left
          · show Act.put _ (some 43) _ = _
            simp only [Act.put, List.setIfInBounds_toArray, List.set_cons_zero, List.set_cons_succ, i64_w, i32_w]
            rfl
          refine one_ (i := 11) (N := some 46) #[true, true, true, true, true, true, true, true, true, true, true, true, false, true, false] rfl rfl (one_of HT_.out (by kernel_rfl)) (by decide) (fun K hK => ?_)
          refine goes_ Try.func67 (by kernel_rfl) rfl #[.slice B3 4 (c7 - 16)] (by rfl) rfl rfl (by first | rfl | (simp only [List.map_toArray, List.map_cons, List.map_nil]; first | done | rfl)) ?_
          have hcr := spec_l2Low.calls k B3 (c7 - 16) ((body.take 20).drop 16) n3 _ (Kd.C_below HF3.out hHeld.2) (by have := HL3.out; have := HL7.out; have := H20.out; omega) M3.out
          rw [HL3.out] at hcr
          refine hcr.mono ?_
          clear hcr
          rintro e w9 ⟨rfl, hd9⟩
          refine ⟨_, rfl, ?_⟩
          have hb9 := hd9.below
          have S9 := Aside0.mk (show ((w9.heap[gp]? = some (.cells #[.slice A0 now.length c0] 163 (0, 0)) ∧ w9.heap[gr]? = some (.cells #[.int .i64 0, .int .i64 0, .int .i64 0, .int .i64 0] 81 (0, 0)) ∧ Below w.heap.size w w9) ∧ Below w3.heap.size w3 w9) from ⟨⟨blk_below hHeld.1.1 hb9, blk_below hHeld.1.2.1 hb9, below_step hHeld.1.2.2 hb9⟩, below_step hHeld.2 hb9⟩)
          have B8 := Aside0.mk (blk_below B8.out hb9)
          clear hd9 hb9 hHeld
          refine hK.out _ _ (S9.out) (fun hHeld => ?_)
          clear hK K
          refine norm_ (a' := ?_) ?_ ?_
          rotate_left
          · show Act.put _ (some 46) _ = _
            simp only [Act.put, List.setIfInBounds_toArray, List.set_cons_zero, List.set_cons_succ, i64_w, i32_w]
            rfl
          refine pure_ (i := 12) (N := some 47) (v := ?_) (a' := ?_) #[true, true, true, true, true, true, true, true, true, true, true, true, true, true, false] rfl rfl (any_of HT_.out (by kernel_rfl)) (fun _ _ _ h => h) (Or.inl ⟨by rfl, ?_⟩) ?_ ?_
          rotate_left
          · intro w'
            go_simp
            with_reducible rfl
          rotate_left
          · simp only [Act.put, List.setIfInBounds_toArray, List.set_cons_zero, List.set_cons_succ, i64_w, i32_w]
            rfl
          exact hK0 g8 _ ⟨B8.out, hHeld.1, G8.out.1, G8.out.2.1, G8.out.2.2⟩
      · refine box_step (by rfl) (N := 9) rfl (cs := #[.int .i64 0, .int .i64 0, .int .i64 0, .int .i64 0]) (t := 81) ?hr ?_
        case hr => first | (go_simp; done) | (go_simp; rfl)
        intro g8 hgr w10 hbox hb9
        have S9 := Aside0.mk (show ((w10.heap[gp]? = some (.cells #[.slice A0 now.length c0] 163 (0, 0)) ∧ w10.heap[gr]? = some (.cells #[.int .i64 0, .int .i64 0, .int .i64 0, .int .i64 0] 81 (0, 0)) ∧ Below w.heap.size w w10) ∧ Below w3.heap.size w3 w10) from ⟨⟨blk_below hHeld.1.1 hb9, blk_below hHeld.1.2.1 hb9, below_step hHeld.1.2.2 hb9⟩, below_step hHeld.2 hb9⟩)
        have B8 := Aside0.mk hbox
        have G8 : Aside0 (w.heap.size ≤ g8 ∧ gp ≠ g8 ∧ gr ≠ g8) := ⟨by rw [hgr]; exact hHeld.1.2.2.size, by have := blk_lt hHeld.1.1; omega, by have := blk_lt hHeld.1.2.1; omega⟩
        clear hbox hb9 hgr hHeld
        refine hK.out _ _ (S9.out) (fun hHeld => ?_)
        clear hK K
        refine norm_ (a' := ?_) ?_ ?_
        rotate_left
        · show Act.put _ (some 9) _ = _
          simp only [Act.put, List.setIfInBounds_toArray, List.set_cons_zero, List.set_cons_succ, i64_w, i32_w]
          rfl
        refine one_ (i := 2) (N := some 37) #[true, true, true, true, true, false, true, true, false, true, true, false, false, true, false] rfl rfl (one_of HT_.out (by kernel_rfl)) (by decide) (fun K hK => ?_)
        refine goes_ Try.func67 (by kernel_rfl) rfl #[.slice (some ad) 7 c7] (by rfl) rfl rfl (by first | rfl | (simp only [List.map_toArray, List.map_cons, List.map_nil]; first | done | rfl)) ?_
        have hcr := spec_l2Low.calls k (some ad) c7 (body.take 7) n0 _ (Kd.C_below HF0.out hHeld.2) (by have := HL0.out; have := HL7.out; have := H20.out; omega) M0.out
        rw [HL0.out] at hcr
        refine hcr.mono ?_
        clear hcr
        rintro e w9 ⟨rfl, hd9⟩
        refine ⟨_, rfl, ?_⟩
        have hb9 := hd9.below
        have S9 := Aside0.mk (show ((w9.heap[gp]? = some (.cells #[.slice A0 now.length c0] 163 (0, 0)) ∧ w9.heap[gr]? = some (.cells #[.int .i64 0, .int .i64 0, .int .i64 0, .int .i64 0] 81 (0, 0)) ∧ Below w.heap.size w w9) ∧ Below w3.heap.size w3 w9) from ⟨⟨blk_below hHeld.1.1 hb9, blk_below hHeld.1.2.1 hb9, below_step hHeld.1.2.2 hb9⟩, below_step hHeld.2 hb9⟩)
        have B8 := Aside0.mk (blk_below B8.out hb9)
        clear hd9 hb9 hHeld
        refine hK.out _ _ (S9.out) (fun hHeld => ?_)
        clear hK K
        refine norm_ (a' := ?_) ?_ ?_
        rotate_left
        · show Act.put _ (some 37) _ = _
          simp only [Act.put, List.setIfInBounds_toArray, List.set_cons_zero, List.set_cons_succ, i64_w, i32_w]
          rfl
        refine one_ (i := 5) (N := some 40) #[true, true, true, true, true, true, true, true, false, true, true, false, false, true, false] rfl rfl (one_of HT_.out (by kernel_rfl)) (by decide) (fun K hK => ?_)
        refine goes_ Try.func67 (by kernel_rfl) rfl #[.slice B1 4 (c7 - 8)] (by rfl) rfl rfl (by first | rfl | (simp only [List.map_toArray, List.map_cons, List.map_nil]; first | done | rfl)) ?_
        have hcr := spec_l2Low.calls k B1 (c7 - 8) ((body.take 12).drop 8) n1 _ (Kd.C_below HF1.out hHeld.2) (by have := HL1.out; have := HL7.out; have := H20.out; omega) M1.out
        rw [HL1.out] at hcr
        refine hcr.mono ?_
        clear hcr
        rintro e w9 ⟨rfl, hd9⟩
        refine ⟨_, rfl, ?_⟩
        have hb9 := hd9.below
        have S9 := Aside0.mk (show ((w9.heap[gp]? = some (.cells #[.slice A0 now.length c0] 163 (0, 0)) ∧ w9.heap[gr]? = some (.cells #[.int .i64 0, .int .i64 0, .int .i64 0, .int .i64 0] 81 (0, 0)) ∧ Below w.heap.size w w9) ∧ Below w3.heap.size w3 w9) from ⟨⟨blk_below hHeld.1.1 hb9, blk_below hHeld.1.2.1 hb9, below_step hHeld.1.2.2 hb9⟩, below_step hHeld.2 hb9⟩)
        have B8 := Aside0.mk (blk_below B8.out hb9)
        clear hd9 hb9 hHeld
        refine hK.out _ _ (S9.out) (fun hHeld => ?_)
        clear hK K
        refine norm_ (a' := ?_) ?_ ?_
        rotate_left
        · show Act.put _ (some 40) _ = _
          simp only [Act.put, List.setIfInBounds_toArray, List.set_cons_zero, List.set_cons_succ, i64_w, i32_w]
          rfl
        refine one_ (i := 8) (N := some 43) #[true, true, true, true, true, true, true, true, true, true, true, false, false, true, false] rfl rfl (one_of HT_.out (by kernel_rfl)) (by decide) (fun K hK => ?_)
        refine goes_ Try.func67 (by kernel_rfl) rfl #[.slice B2 4 (c7 - 12)] (by rfl) rfl rfl (by first | rfl | (simp only [List.map_toArray, List.map_cons, List.map_nil]; first | done | rfl)) ?_
        have hcr := spec_l2Low.calls k B2 (c7 - 12) ((body.take 16).drop 12) n2 _ (Kd.C_below HF2.out hHeld.2) (by have := HL2.out; have := HL7.out; have := H20.out; omega) M2.out
        rw [HL2.out] at hcr
        refine hcr.mono ?_
        clear hcr
        rintro e w9 ⟨rfl, hd9⟩
        refine ⟨_, rfl, ?_⟩
        have hb9 := hd9.below
        have S9 := Aside0.mk (show ((w9.heap[gp]? = some (.cells #[.slice A0 now.length c0] 163 (0, 0)) ∧ w9.heap[gr]? = some (.cells #[.int .i64 0, .int .i64 0, .int .i64 0, .int .i64 0] 81 (0, 0)) ∧ Below w.heap.size w w9) ∧ Below w3.heap.size w3 w9) from ⟨⟨blk_below hHeld.1.1 hb9, blk_below hHeld.1.2.1 hb9, below_step hHeld.1.2.2 hb9⟩, below_step hHeld.2 hb9⟩)
        have B8 := Aside0.mk (blk_below B8.out hb9)
        clear hd9 hb9 hHeld
        refine hK.out _ _ (S9.out) (fun hHeld => ?_)
        clear hK K
        refine norm_ (a' := ?_) ?_ ?_
        rotate_left
        · show Act.put _ (some 43) _ = _
          simp only [Act.put, List.setIfInBounds_toArray, List.set_cons_zero, List.set_cons_succ, i64_w, i32_w]
          rfl
        refine one_ (i := 11) (N := some 46) #[true, true, true, true, true, true, true, true, true, true, true, true, false, true, false] rfl rfl (one_of HT_.out (by kernel_rfl)) (by decide) (fun K hK => ?_)
        refine goes_ Try.func67 (by kernel_rfl) rfl #[.slice B3 4 (c7 - 16)] (by rfl) rfl rfl (by first | rfl | (simp only [List.map_toArray, List.map_cons, List.map_nil]; first | done | rfl)) ?_
        have hcr := spec_l2Low.calls k B3 (c7 - 16) ((body.take 20).drop 16) n3 _ (Kd.C_below HF3.out hHeld.2) (by have := HL3.out; have := HL7.out; have := H20.out; omega) M3.out
        rw [HL3.out] at hcr
        refine hcr.mono ?_
        clear hcr
        rintro e w9 ⟨rfl, hd9⟩
        refine ⟨_, rfl, ?_⟩
        have hb9 := hd9.below
        have S9 := Aside0.mk (show ((w9.heap[gp]? = some (.cells #[.slice A0 now.length c0] 163 (0, 0)) ∧ w9.heap[gr]? = some (.cells #[.int .i64 0, .int .i64 0, .int .i64 0, .int .i64 0] 81 (0, 0)) ∧ Below w.heap.size w w9) ∧ Below w3.heap.size w3 w9) from ⟨⟨blk_below hHeld.1.1 hb9, blk_below hHeld.1.2.1 hb9, below_step hHeld.1.2.2 hb9⟩, below_step hHeld.2 hb9⟩)
        have B8 := Aside0.mk (blk_below B8.out hb9)
        clear hd9 hb9 hHeld
        refine hK.out _ _ (S9.out) (fun hHeld => ?_)
        clear hK K
        refine norm_ (a' := ?_) ?_ ?_
        rotate_left
        · show Act.put _ (some 46) _ = _
          simp only [Act.put, List.setIfInBounds_toArray, List.set_cons_zero, List.set_cons_succ, i64_w, i32_w]
          rfl
        refine pure_ (i := 12) (N := some 47) (v := ?_) (a' := ?_) #[true, true, true, true, true, true, true, true, true, true, true, true, true, true, false] rfl rfl (any_of HT_.out (by kernel_rfl)) (fun _ _ _ h => h) (Or.inl ⟨by rfl, ?_⟩) ?_ ?_
        rotate_left
        · intro w'
          go_simp
          with_reducible rfl
        rotate_left
        · simp only [Act.put, List.setIfInBounds_toArray, List.set_cons_zero, List.set_cons_succ, i64_w, i32_w]
          rfl
        exact hK0 g8 _ ⟨B8.out, hHeld.1, G8.out.1, G8.out.2.1, G8.out.2.2⟩
    rintro g8 w11 ⟨hb11, ⟨hr11, hr12, hB11⟩, hge11, hne11, hne12⟩
    refine norm_ (a' := ?_) ?_ ?_
    rotate_left
    · skip
      simp only [putAll, Act.put, List.setIfInBounds_toArray, List.set_cons_zero, List.set_cons_succ, i64_w, i32_w]
      rfl
    refine last_ (i := 14) (N := none) #[true, true, true, true, true, true, true, true, true, true, true, true, true, true, true] rfl rfl (one_of HT_.out (by kernel_rfl)) (by decide) (fun K hK => ?_)
    refine store_blk_step (by rfl) rfl 81 (.tmp 9) (.tmp 47) rfl (off := 0) (u := .agg #[.int .i64 n0, .int .i64 n1, .int .i64 n2, .int .i64 n3]) #[.int .i64 n0, .int .i64 n1, .int .i64 n2, .int .i64 n3] rfl rfl hb11 [.int .i64 n0, .int .i64 n1, .int .i64 n2, .int .i64 n3] rfl (by kernel_rfl) (Nat.le_of_ble_eq_true rfl) rfl rfl ?_
    intro w12 hblk hgrw
    have B8 := Aside0.mk hblk
    have HB := Aside0.mk (hB11.grown hgrw hB11.size (by intro q hq; cases hq; exact hge11))
    have BP := Aside0.mk (blk_grown hr11 hgrw (by intro e; exact hne11 (Option.some.inj e)))
    have BR := Aside0.mk (blk_grown hr12 hgrw (by intro e; exact hne12 (Option.some.inj e)))
    clear hblk hgrw hb11 hr11 hr12 hB11 hge11 hne11 hne12
    refine hK.out _ _ ?_
    clear hK K
    refine done_ (done_of HT_.out (by kernel_rfl)) ?_
    try clear hHeld
    have hs0 : w12.cell? ⟨g8, 0, none⟩ = some (.int .i64 n0) := (blk_cell B8.out 0).trans rfl
    have hs1 : w12.cell? ⟨g8, 1, none⟩ = some (.int .i64 n1) := (blk_cell B8.out 1).trans rfl
    have hs2 : w12.cell? ⟨g8, 2, none⟩ = some (.int .i64 n2) := (blk_cell B8.out 2).trans rfl
    have hs3 : w12.cell? ⟨g8, 3, none⟩ = some (.int .i64 n3) := (blk_cell B8.out 3).trans rfl
    clear hx7
    go_wp2_with fail
    refine (spec_l2SuperOk.calls n0 n1 n2 n3 ok2 _ M4.out).mono ?_
    rintro e w13 ⟨rfl, hb⟩
    have B8 := Aside0.mk (blk_below B8.out hb)
    have BP := Aside0.mk (blk_below BP.out hb)
    have BR := Aside0.mk (blk_below BR.out hb)
    have HB := Aside0.mk (below_step HB.out hb)
    clear hb hs0 hs1 hs2 hs3
    have hs0 : w13.cell? ⟨g8, 0, none⟩ = some (.int .i64 n0) := (blk_cell B8.out 0).trans rfl
    have hs1 : w13.cell? ⟨g8, 1, none⟩ = some (.int .i64 n1) := (blk_cell B8.out 1).trans rfl
    have hs2 : w13.cell? ⟨g8, 2, none⟩ = some (.int .i64 n2) := (blk_cell B8.out 2).trans rfl
    have hs3 : w13.cell? ⟨g8, 3, none⟩ = some (.int .i64 n3) := (blk_cell B8.out 3).trans rfl
    have hp0 : w13.cell? ⟨gp, 0, none⟩ = some (.slice A0 now.length c0) := (blk_cell BP.out 0).trans rfl
    have hdv : wrap64 ((now.length : Int) / 4) = (now.length : Int) / 4 := by
      have := HLN.out
      unfold wrap64
      omega
    have h := HH.out
    cases ok2 with
    | false =>
      rw [if_neg (by decide)] at h
      simp only [Option.some.injEq, Prod.mk.injEq] at h
      obtain ⟨⟨rfl, rfl, rfl, rfl⟩, rfl⟩ := h
      go_wp2_with (first | ((with_reducible refine gate_ (.store 81 (.tmp 4) (.tmp 67)) rfl ?_); refine store_blk rfl rfl 81 (.tmp 4) (.tmp 67) rfl (off := 0) (u := .agg #[.int .i64 0, .int .i64 0, .int .i64 0, .int .i64 0]) #[.int .i64 0, .int .i64 0, .int .i64 0, .int .i64 0] rfl rfl BR.out [.int .i64 0, .int .i64 0, .int .i64 0, .int .i64 0] rfl (by kernel_rfl) (Nat.le_of_ble_eq_true rfl) rfl rfl ?_; intro w9 hblk hgrw; have BR2 := Aside0.mk hblk; have HB2 := Aside0.mk (HB.out.grown hgrw HB.out.size (by intro q hq; cases hq; exact GR.out)); clear hblk hgrw))
      refine bodyPost_ret (results_cell_slot rfl _ _ gr 81 #[.int .i64 0, .int .i64 0, .int .i64 0, .int .i64 0] (0, 0) _ _ rfl rfl BR2.out Try.underlying81 rfl (by kernel_rfl)) rfl ?_
      exact ⟨rfl, HB2.out⟩
    | true =>
      rw [if_pos rfl] at h
      by_cases q2 : Int.tmod n0 2 = id
      case neg =>
        rw [if_neg q2] at h
        simp only [Option.some.injEq, Prod.mk.injEq] at h
        obtain ⟨⟨rfl, rfl, rfl, rfl⟩, rfl⟩ := h
        have e1 : (Int.tmod n0 2 != id) = true := bne_iff_ne.mpr q2
        have e2 : (Int.tmod n0 2 == id) = false := beq_eq_false_iff_ne.mpr q2
        go_wp2_with (first | ((with_reducible refine gate_ (.store 81 (.tmp 4) (.tmp 67)) rfl ?_); refine store_blk rfl rfl 81 (.tmp 4) (.tmp 67) rfl (off := 0) (u := .agg #[.int .i64 0, .int .i64 0, .int .i64 0, .int .i64 0]) #[.int .i64 0, .int .i64 0, .int .i64 0, .int .i64 0] rfl rfl BR.out [.int .i64 0, .int .i64 0, .int .i64 0, .int .i64 0] rfl (by kernel_rfl) (Nat.le_of_ble_eq_true rfl) rfl rfl ?_; intro w9 hblk hgrw; have BR2 := Aside0.mk hblk; have HB2 := Aside0.mk (HB.out.grown hgrw HB.out.size (by intro q hq; cases hq; exact GR.out)); clear hblk hgrw))
        refine bodyPost_ret (results_cell_slot rfl _ _ gr 81 #[.int .i64 0, .int .i64 0, .int .i64 0, .int .i64 0] (0, 0) _ _ rfl rfl BR2.out Try.underlying81 rfl (by kernel_rfl)) rfl ?_
        exact ⟨rfl, HB2.out⟩
      rw [if_pos q2] at h
      have e1 : (Int.tmod n0 2 != id) = false := bne_eq_false_iff_eq.mpr q2
      have e2 : (Int.tmod n0 2 == id) = true := beq_iff_eq.mpr q2
      clear q2
      by_cases q3 : (now.length : Int) / 4 < n2
      · rw [if_pos q3] at h
        simp only [Option.some.injEq, Prod.mk.injEq] at h
        obtain ⟨⟨rfl, rfl, rfl, rfl⟩, rfl⟩ := h
        have e3 : decide ((now.length : Int) / 4 < n2) = true := decide_eq_true q3
        have e4 : decide (wrap64 ((now.length : Int) / 4) < n2) = true := by rw [hdv]; exact e3
        clear hdv
        go_wp2_with (first | ((with_reducible refine gate_ (.store 81 (.tmp 4) (.tmp 67)) rfl ?_); refine store_blk rfl rfl 81 (.tmp 4) (.tmp 67) rfl (off := 0) (u := .agg #[.int .i64 0, .int .i64 0, .int .i64 0, .int .i64 0]) #[.int .i64 0, .int .i64 0, .int .i64 0, .int .i64 0] rfl rfl BR.out [.int .i64 0, .int .i64 0, .int .i64 0, .int .i64 0] rfl (by kernel_rfl) (Nat.le_of_ble_eq_true rfl) rfl rfl ?_; intro w9 hblk hgrw; have BR2 := Aside0.mk hblk; have HB2 := Aside0.mk (HB.out.grown hgrw HB.out.size (by intro q hq; cases hq; exact GR.out)); clear hblk hgrw))
        refine bodyPost_ret (results_cell_slot rfl _ _ gr 81 #[.int .i64 0, .int .i64 0, .int .i64 0, .int .i64 0] (0, 0) _ _ rfl rfl BR2.out Try.underlying81 rfl (by kernel_rfl)) rfl ?_
        exact ⟨rfl, HB2.out⟩
      · rw [if_neg q3] at h
        simp only [Option.some.injEq, Prod.mk.injEq] at h
        obtain ⟨⟨rfl, rfl, rfl, rfl⟩, rfl⟩ := h
        have e3 : decide ((now.length : Int) / 4 < n2) = false := decide_eq_false q3
        have e4 : decide (wrap64 ((now.length : Int) / 4) < n2) = false := by rw [hdv]; exact e3
        clear hdv
        go_wp2_with (first | ((with_reducible refine gate_ (.store 81 (.tmp 4) (.tmp 68)) rfl ?_); refine store_blk rfl rfl 81 (.tmp 4) (.tmp 68) rfl (off := 0) (u := .agg #[.int .i64 n0, .int .i64 n1, .int .i64 n2, .int .i64 n3]) #[.int .i64 n0, .int .i64 n1, .int .i64 n2, .int .i64 n3] rfl rfl BR.out [.int .i64 n0, .int .i64 n1, .int .i64 n2, .int .i64 n3] rfl (by kernel_rfl) (Nat.le_of_ble_eq_true rfl) rfl rfl ?_; intro w9 hblk hgrw; have BR2 := Aside0.mk hblk; have HB2 := Aside0.mk (HB.out.grown hgrw HB.out.size (by intro q hq; cases hq; exact GR.out)); clear hblk hgrw))
        refine bodyPost_ret (results_cell_slot rfl _ _ gr 81 #[.int .i64 n0, .int .i64 n1, .int .i64 n2, .int .i64 n3] (0, 0) _ _ rfl rfl BR2.out Try.underlying81 rfl (by kernel_rfl)) rfl ?_
        exact ⟨rfl, HB2.out⟩
end Go.Proofs.Ytlopmffdebhpfaa.G
