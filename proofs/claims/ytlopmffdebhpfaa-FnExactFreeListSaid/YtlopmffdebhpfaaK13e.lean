/- The law FnExactFreeList is true of every argument: its row, out of the walk. Conditions: none beyond the given statement. -/
import Derived.Test.YtlopmffdebhpfaaK13a
import Derived.Lib.SmallJoins
import Derived.Test.YtlopmffdebhpfaaK13d
import Derived.Test.YtlopmffdebhpfaaRows
import Derived.WalkKit
import Derived.ProofKit
import Derived.OpenShut
import Derived.ShutString
import Derived.ChangeOld
import Derived.Below
import Derived.SizedLaws
import Derived.Test.YtlopmffdebhpfaaK13WSized
/-! ## Open -/
namespace Go.Proofs.Ytlopmffdebhpfaa.G
open Go.RowKit Go.ChangeShapes Go.WideShapes Go.ChangeAt Go.Proofs.YtlopmffdebhpfaaW.PrintWords Go.Proofs.YtlopmffdebhpfaaW.PrintLast Go.Proofs.YtlopmffdebhpfaaW.PrintMore
section
variable {H : Type} {enc : TypeId × Value → H} {P : Program} {w : World} {base : Nat} {spare : Nat → Bool} {held : Bool}
theorem choose_list {α : Type} (n : Nat) (R : Nat → α → Prop) (h : ∀ i, i < n → ∃ x, R i x) : ∃ xs : List α, xs.length = n ∧ ∀ i x, xs[i]? = some x → R i x := by
  induction n with
  | zero => exact ⟨[], rfl, fun i x hx => by simp at hx⟩
  | succ n ih =>
    obtain ⟨xs, hl, hx⟩ := ih (fun i hi => h i (by omega))
    obtain ⟨y, hy⟩ := h n (by omega)
    refine ⟨xs ++ [y], by simp [hl], fun i x hi => ?_⟩
    rcases Nat.lt_or_ge i xs.length with h1 | h1
    · rw [List.getElem?_append_left h1] at hi
      exact hx i x hi
    · rw [List.getElem?_append_right h1] at hi
      have h2 : i - xs.length = 0 := by
        have := (List.getElem?_eq_some_iff.1 hi).1
        simp at this
        omega
      rw [h2] at hi
      obtain rfl : y = x := by simpa using hi
      rw [show i = n by omega]
      exact hy
/-- A slice's reading tells a row that is read. -/
theorem open_rows {α : Type} (d : Kd α) (wf : α → Prop) {t e : TypeId} {fuel : Nat} {cs : List Value} {x : DataW H × List MemPlace} (ht : P.underlying t = some (.slice e)) (hsz : P.cellsOf e = d.sz)
    (hel : ∀ n cs y, DataW.trod enc P w base spare held n e cs = some y → ∃ z, d.K w z cs ∧ wf z) (h : DataW.trod enc P w base spare held fuel t cs = some x) :
    ∃ A c zs, cs = [.slice A zs.length c] ∧ zs.length ≤ c ∧ Kd.C d w A zs.length zs ∧ ∀ z ∈ zs, wf z := by
  rcases DataW.trod_slice ht h with ⟨rfl, _⟩ | ⟨a, len, cap, elems, rest, n, _, rfl, _, _, hl, hm, hlen, hE, _⟩
  · exact ⟨none, 0, [], rfl, Nat.le_refl _, ⟨rfl, Nat.zero_le _, fun h0 => absurd h0 (Nat.lt_irrefl 0)⟩, fun z hz => by cases hz⟩
  have hpick : ∀ i, i < len → ∃ z : α, wf z ∧ ∃ c, c.length = d.sz ∧ d.K w z c ∧ ∀ j u, c[j]? = some u → w.cell? (a.add (i * d.sz + j)) = some u := by
    intro i hi
    have h1 := hE i hi
    rw [List.getElem?_eq_getElem (by omega), Option.bind_eq_some_iff] at h1
    obtain ⟨c, hc, hy⟩ := h1
    obtain ⟨z, hK, hz⟩ := hel n c _ hy
    obtain ⟨_, hcl, hcc⟩ := World.cells?_some hc
    refine ⟨z, hz, c, by rw [hcl, hsz], hK, fun j u hu => ?_⟩
    have hj : j < P.cellsOf e := by
      have := (List.getElem?_eq_some_iff.1 hu).1
      omega
    have h2 := hcc j hj
    rw [hu] at h2
    rw [← h2, hsz]
    by_cases z1 : i * d.sz = 0 <;> by_cases z2 : j = 0 <;> simp [Addr.add, z1, z2, Nat.add_assoc]
  obtain ⟨zs, hzl, hzs⟩ := choose_list len _ hpick
  refine ⟨some a, cap, zs, by rw [hzl], by omega, ⟨rfl, by rw [hzl]; exact Nat.le_trans hl hm, fun _ => ⟨a, rfl, fun j p hp => (hzs j p hp).2⟩⟩, fun z hz => ?_⟩
  obtain ⟨i, hi⟩ := List.getElem?_of_mem hz
  exact (hzs i z hi).1
theorem open_el_int {k : IntKind} {e : TypeId} (he : P.underlying e = some (.int k)) (n : Nat) (cs : List Value) (y : DataW H × List MemPlace) (h : DataW.trod enc P w base spare held n e cs = some y) : ∃ z, (Kd.int k).K w z cs ∧ (Lit.int k z).wf = true := by
  obtain ⟨m, rfl, _, hw⟩ := DataW.trod_int he h
  exact ⟨m, rfl, hw⟩
theorem two_of_length {α : Type} : ∀ {l : List α}, l.length = 2 → ∃ u v, l = [u, v]
  | [u, v], _ => ⟨u, v, rfl⟩
/-- A row of bytes. -/
def Wb (l : List Int) : Prop := ∀ x ∈ l, (Lit.int .u8 x).wf = true
theorem open_el_bytes {t e : TypeId} (ht : P.underlying t = some (.slice e)) (he : P.underlying e = some (.int .u8)) (hc : P.cellsOf e = 1) (n : Nat) (cs : List Value) (y : DataW H × List MemPlace) (h : DataW.trod enc P w base spare held n t cs = some y) : ∃ z, (Kd.slice e (Kd.int .u8)).K w z cs ∧ Wb z := by
  obtain ⟨A, c, zs, rfl, hl, hC, hw⟩ := open_rows (Kd.int .u8) (fun x => (Lit.int .u8 x).wf = true) ht hc (open_el_int he) h
  exact ⟨zs, ⟨A, c, rfl, hl, hC⟩, hw⟩
theorem open_el_pend (n : Nat) (cs : List Value) (y : DataW H × List MemPlace) (h : DataW.trod enc Try.prog w base spare held n 184 cs = some y) : ∃ z, k184.K w z cs ∧ ((Lit.int .i64 z.f0).wf = true ∧ Wb z.f1) := by
  obtain ⟨y0, y1, m, _, hlen, h0, h1⟩ := trod_struct2 Try.underlying184 h
  obtain ⟨a, ha, _, hw⟩ := DataW.trod_int Try.underlying3 h0
  obtain ⟨z, hK, hz⟩ := open_el_bytes Try.underlying22 Try.underlying5 (by kernel_rfl) m _ _ h1
  obtain ⟨A, c, hb, hl, hC⟩ := hK
  have h3 : Try.prog.cellsOf 3 = 1 := by kernel_rfl
  have h22 : Try.prog.cellsOf 22 = 1 := by kernel_rfl
  have h184 : Try.prog.cellsOf 184 = 2 := by kernel_rfl
  rw [h184] at hlen
  rw [h3] at ha
  rw [h22] at hb
  obtain ⟨u, v, rfl⟩ := two_of_length hlen
  have ha' : u = .int .i64 a := by simpa using ha
  have hb' : v = .slice A z.length c := by simpa using hb
  rw [ha', hb']
  exact ⟨⟨a, z⟩, k184_mk w ⟨a, z⟩ hl hC, hw, hz⟩
/-- A disk that came in, opened. -/
structure ODisk (w : World) where
  A0 : Option Addr
  c0 : Nat
  A1 : Option Addr
  c1 : Nat
  l0 : List (List Int)
  l1 : List S184
  hc0 : l0.length ≤ c0
  hc1 : l1.length ≤ c1
  hr0 : Kd.C (Kd.slice 5 (Kd.int .u8)) w A0 l0.length l0
  hr1 : Kd.C k184 w A1 l1.length l1
  hw0 : ∀ l ∈ l0, Wb l
  hw1 : ∀ q ∈ l1, (Lit.int .i64 q.f0).wf = true ∧ Wb q.f1
def ODisk.v {w : World} (o : ODisk w) : Value := .agg #[.slice o.A0 o.l0.length o.c0, .slice o.A1 o.l1.length o.c1]
set_option maxRecDepth 100000 in
/-- A disk by value: its sectors and its pending writes. -/
theorem open_disk {r : Reach} {b0 : Nat} {v : Value} {d : DataW H} {p : List MemPlace} (hv : Value.okWide Try.prog w r b0 39 v) (h : DataW.Trod enc Try.prog w base spare held 39 v d p) : ∃ o : ODisk w, v = o.v := by
  obtain ⟨v0, v1, y0, y1, n, rfl, _, _, h0, h1⟩ := Go.Joins.open_agg2 Try.underlying39 (by kernel_rfl) (by kernel_rfl) hv h
  obtain ⟨A0, c0, l0, e0, hl0, hC0, hw0⟩ := open_rows (Kd.slice 5 (Kd.int .u8)) Wb Try.underlying36 (by kernel_rfl) (open_el_bytes Try.underlying22 Try.underlying5 (by kernel_rfl)) h0
  obtain ⟨A1, c1, l1, e1, hl1, hC1, hw1⟩ := open_rows k184 (fun q => (Lit.int .i64 q.f0).wf = true ∧ Wb q.f1) Try.underlying37 (by kernel_rfl) open_el_pend h1
  injection e0 with e0
  injection e1 with e1
  subst e0
  subst e1
  exact ⟨⟨A0, c0, A1, c1, l0, l1, hl0, hl1, hC0, hC1, hw0, hw1⟩, rfl⟩
end
end Go.Proofs.Ytlopmffdebhpfaa.G

/-! ## PureFnExactReadPage -/
namespace Go.Proofs.Ytlopmffdebhpfaa.Pure
open Go.RowKit Go.Proofs.Ytlopmffdebhpfaa.G Go.Proofs.YtlopmffdebhpfaaW.PrintWords Go.Proofs.YtlopmffdebhpfaaW.PrintLast Go.Proofs.YtlopmffdebhpfaaW.PrintMore
/-- The bytes of a page's first n sectors. -/
def pb (now : List (List Int)) (id : Int) : Nat → List Int
  | 0 => []
  | n + 1 => pb now id n ++ rd_L2 now (4 * id + n)
theorem pb_len {now : List (List Int)} {id : Int} (hl : ∀ l ∈ now, l.length = 64) (h0 : 0 ≤ id) : ∀ (n : Nat), 4 * id + n ≤ (now.length : Int) → (pb now id n).length = 64 * n
  | 0, _ => rfl
  | n + 1, h => by
    have := pb_len hl h0 n (by omega)
    have h2 := hl _ (rd_L2_mem (x := 4 * id + n) (ls := now) (by omega) (by omega))
    simp only [pb, List.length_append, this, h2]
    omega
theorem pb_by {now : List (List Int)} {id : Int} (hb : ∀ l ∈ now, By l) (h0 : 0 ≤ id) : ∀ (n : Nat), 4 * id + n ≤ (now.length : Int) → By (pb now id n)
  | 0, _ => By.nil
  | n + 1, h => (pb_by hb h0 n (by omega)).append (hb _ (rd_L2_mem (x := 4 * id + n) (ls := now) (by omega) (by omega)))
theorem nowL_by : ∀ (ps : List S185) (safe : List (List Int)), (∀ l ∈ safe, By l) → (∀ p ∈ ps, By p.f1) → ∀ l ∈ nowL safe ps, By l
  | [], _, h, _ => h
  | p :: r, safe, h, hp => by
    refine nowL_by r (safe.set p.f0.toNat p.f1) (fun l hl => ?_) (fun q hq => hp q (List.mem_cons_of_mem _ hq))
    rcases List.mem_or_eq_of_mem_set hl with h1 | h1
    · exact h l h1
    · rw [h1]; exact hp p List.mem_cons_self
def rpV (safe : List (List Int)) (ps : List S185) (id : Int) : Int × List Int × Bool := if okDisk safe ps ∧ 0 ≤ id ∧ id < (safe.length : Int) / 4 then decV id (pb (nowL safe ps) id 4) else (0, [], false)
theorem spec_view_l0 {now : List (List Int)} {id : Int} (hl : ∀ l ∈ now, l.length = 64) (hn : now.length ≤ 4096) (hb : ∀ l ∈ now, By l) (h0 : 0 ≤ id) (h1 : id < (now.length : Int) / 4) : ∀ (m n : Nat), n + m = 4 → Cv (fun k => spec_l2View_page.l0 k id (pb now id n) (n : Int) now) (decV id (pb now id 4))
  | 0, n, h => by
    obtain rfl : n = 4 := by omega
    refine Cv.step (fun k => spec_l2View_page.l0.eq_2 _ _ _ _ k) (Cv.neg (by decide) (Cv.bind (spec_dec (pb_by hb h0 4 (by omega))) (Cv.of rfl)))
  | m + 1, n, h => by
    have hw : wrap64 (wrap64 (4 * id) + (n : Int)) = 4 * id + n := by rw [w64 (n := 4 * id) (by omega) (by omega), w64 (by omega) (by omega)]
    have hmem := hl _ (rd_L2_mem (x := 4 * id + n) (ls := now) (by omega) (by omega))
    have hpl := pb_len hl h0 n (by omega)
    refine Cv.step (fun k => spec_l2View_page.l0.eq_2 _ _ _ _ k) (Cv.pos (by omega) ?_)
    rw [hw, w64 (n := (n : Int) + 1) (by omega) (by omega)]
    refine Cv.pos (by omega) (Cv.pos (by omega) (Cv.pos (by omega) ?_))
    exact spec_view_l0 hl hn hb h0 h1 m (n + 1) (by omega)
theorem sector_ok {safe : List (List Int)} {ps : List S185} (hok : okDisk safe ps) {x : Int} (h0 : 0 ≤ x) (h1 : x < (safe.length : Int)) : impl_sector.f safe ps x = some (rd_L2 (nowL safe ps) x, true) := by
  unfold impl_sector.f
  rw [if_pos ⟨h0, h1⟩]
  have hl := now_last (safe := safe) ps.length ps rfl hok.2.2.2.2 x h0 h1
  cases hm : lastM ps x with
  | none =>
    rw [hm] at hl
    dsimp only at hl ⊢
    rw [hl]
  | some i =>
    rw [hm] at hl
    dsimp only at hl ⊢
    rw [if_pos (lastM_range _ ps rfl x i hm), hl]
theorem acc_ok {safe : List (List Int)} {ps : List S185} (hok : okDisk safe ps) {id : Int} (h0 : 0 ≤ id) : ∀ (n : Nat), 4 * id + n ≤ (safe.length : Int) → accS safe ps id n = some (pb (nowL safe ps) id n)
  | 0, _ => rfl
  | n + 1, h => by
    have hn := nowL_length ps safe
    have hlen := nowL_len ps safe hok.2.2.2.1 (fun p hp => (hok.2.2.2.2 p hp).2.2)
    have hsz := hok.2.1
    have hpl := pb_len (now := nowL safe ps) hlen h0 n (by omega)
    have hmem := hlen _ (rd_L2_mem (x := 4 * id + n) (ls := nowL safe ps) (by omega) (by omega))
    unfold accS
    rw [acc_ok hok h0 n (by omega), Option.bind_some, sector_ok hok (by omega) (by omega), Option.bind_some, if_pos (by dsimp only; omega)]
    rfl
end Go.Proofs.Ytlopmffdebhpfaa.Pure

/-! ## PureFnExactBestSuper -/
namespace Go.Proofs.Ytlopmffdebhpfaa.Pure
open Go.RowKit Go.Proofs.Ytlopmffdebhpfaa.G Go.Proofs.YtlopmffdebhpfaaW.PrintWords Go.Proofs.YtlopmffdebhpfaaW.PrintLast Go.Proofs.YtlopmffdebhpfaaW.PrintMore
theorem spec_view {safe : List (List Int)} {ps : List S185} {id : Int} (hb0 : ∀ l ∈ safe, By l) (hb1 : ∀ p ∈ ps, By p.f1) (hok : okDisk safe ps) : Cv (fun k => spec_l2View_page.f k (nowL safe ps) id) (rpV safe ps id) := by
  have hn := nowL_length ps safe
  have hlen := nowL_len ps safe hok.2.2.2.1 (fun p hp => (hok.2.2.2.2 p hp).2.2)
  have hby := nowL_by ps safe hb0 hb1
  have hsz := hok.2.1
  have hj : ∀ (c : Bool), c = true → Cv (fun k => spec_l2View_page.j0 k id c (nowL safe ps)) (0, [], false) := fun c hc => Cv.step (fun k => spec_l2View_page.j0.eq_2 _ _ _ k) (Cv.pos hc (Cv.of rfl))
  unfold spec_l2View_page.f
  by_cases h0 : id < 0
  · have e : rpV safe ps id = (0, [], false) := if_neg (fun h => by omega)
    rw [e]
    exact Cv.pos h0 (hj _ rfl)
  refine Cv.neg h0 ?_
  rw [hn, w64 (n := (safe.length : Int) / 4) (by omega) (by omega)]
  by_cases h1 : id ≥ (safe.length : Int) / 4
  · have e : rpV safe ps id = (0, [], false) := if_neg (fun h => by omega)
    rw [e]
    exact hj _ (decide_eq_true h1)
  have e : rpV safe ps id = decV id (pb (nowL safe ps) id 4) := if_pos ⟨hok, by omega, by omega⟩
  rw [e, show decide (id ≥ (safe.length : Int) / 4) = false from decide_eq_false h1]
  exact Cv.step (fun k => spec_l2View_page.j0.eq_2 _ _ _ k) (Cv.neg (by decide) (spec_view_l0 hlen (by omega) hby (by omega) (by omega) 4 0 rfl))
theorem impl_parse {id : Int} {l : List Int} (hb : By l) : Cv (fun k => impl_parsePage.f k id l) (if l.length = 256 then (if 0 ≤ id ∧ id ≤ 1023 ∧ 1 ≤ rd l 8 ∧ rd l 8 ≤ 4 ∧ sizeOf2 l ≤ 240 then (if pageOf id.toNat (rd l 8).toNat (bodyOf l) = l then (0, id, rd l 8, sizeOf2 l, bodyOf l) else (2, 0, 0, 0, [])) else (2, 0, 0, 0, [])) else (1, 0, 0, 0, [])) := by
  have b8 := By_rd hb 8
  have b10 := By_rd hb 10
  have b11 := By_rd hb 11
  have hs0 : 0 ≤ sizeOf2 l := by unfold sizeOf2; omega
  unfold impl_parsePage.f
  by_cases hl : l.length = 256
  case neg =>
    rw [if_neg hl]
    exact Cv.neg hl (Cv.of rfl)
  rw [if_pos hl]
  refine Cv.pos hl ?_
  rw [mid2 hl]
  refine Cv.bind (num2 b10 b11) ?_
  rw [show rd l 10 + 256 * rd l 11 = sizeOf2 l from rfl, w64 (n := rd l 8) (by omega) (by omega)]
  refine Cv.bind (Cv.of (valid_eq _ _ _)) ?_
  by_cases hok : 0 ≤ id ∧ id ≤ 1023 ∧ 1 ≤ rd l 8 ∧ rd l 8 ≤ 4 ∧ sizeOf2 l ≤ 240
  case neg =>
    rw [if_neg hok]
    exact Cv.neg (by rw [decide_eq_true_eq]; exact hok) (Cv.of rfl)
  rw [if_pos hok]
  refine Cv.pos (decide_eq_true hok) (Cv.pos (by omega) ?_)
  rw [show (l.take (16 + sizeOf2 l).toNat).drop 16 = bodyOf l from rfl]
  have hbb : By (bodyOf l) := (hb.take _).drop _
  have hbl := bodyOf_length hl hs0 (by omega)
  have hp : Cv (fun k => impl_page_bytes.f k id (rd l 8) (sizeOf2 l) (bodyOf l)) (pageOf id.toNat (rd l 8).toNat (bodyOf l)) := by
    have h := page_bytes (id := id.toNat) (kind := (rd l 8).toNat) (body := bodyOf l) (by omega) hbb (by omega)
    rw [Int.toNat_of_nonneg hok.1, Int.toNat_of_nonneg b8.1, hbl] at h
    exact h
  refine Cv.bind hp ?_
  refine Cv.bind (v := decide (pageOf id.toNat (rd l 8).toNat (bodyOf l) = l)) (Cv.of ?_) ?_
  · unfold bytes_Equal.f
    rw [str_eq (pageOf_by _ _ hbb) hb]
  · by_cases he : pageOf id.toNat (rd l 8).toNat (bodyOf l) = l
    · rw [if_pos he]
      exact Cv.pos (decide_eq_true he) (Cv.of rfl)
    · rw [if_neg he]
      exact Cv.neg (by rw [decide_eq_true_eq]; exact he) (Cv.of rfl)
theorem parse_dec {id : Int} {l : List Int} (hb : By l) : ∃ v : Nat × Int × Int × Int × List Int, Cv (fun k => impl_parsePage.f k id l) v ∧ ((decV id l).2.2 = true → v.1 = 0 ∧ v.2.2.1 = (decV id l).1 ∧ v.2.2.2.2 = (decV id l).2.1) ∧ ((decV id l).2.2 = false → v.1 ≠ 0) := by
  refine ⟨_, impl_parse hb, ?_⟩
  by_cases h1 : l.length = 256
  case neg => rw [if_neg h1, decV_neg (fun h => h1 h.1)]; exact ⟨fun h => (by cases h), fun _ => by decide⟩
  rw [if_pos h1]
  by_cases h2 : 0 ≤ id ∧ id ≤ 1023 ∧ 1 ≤ rd l 8 ∧ rd l 8 ≤ 4 ∧ sizeOf2 l ≤ 240
  case neg => rw [if_neg h2, decV_neg (fun h => h2 ⟨h.2.2.1, h.2.2.2.1, h.2.2.2.2.1, h.2.2.2.2.2.1, h.2.1⟩)]; exact ⟨fun h => (by cases h), fun _ => by decide⟩
  rw [if_pos h2]
  by_cases h3 : pageOf id.toNat (rd l 8).toNat (bodyOf l) = l
  case neg => rw [if_neg h3, decV_neg (fun h => h3 h.2.2.2.2.2.2)]; exact ⟨fun h => (by cases h), fun _ => by decide⟩
  rw [if_pos h3, decV_pos ⟨h1, h2.2.2.2.2, h2.1, h2.2.1, h2.2.2.1, h2.2.2.2.1, h3⟩]
  exact ⟨fun _ => ⟨rfl, rfl, rfl⟩, fun h => by cases h⟩
theorem decV_by {id : Int} {l : List Int} (hb : By l) : By (decV id l).2.1 := by
  unfold decV
  split
  · exact (hb.take _).drop _
  · exact By.nil
theorem rpV_by {safe : List (List Int)} {ps : List S185} {id : Int} (hb0 : ∀ l ∈ safe, By l) (hb1 : ∀ p ∈ ps, By p.f1) : By (rpV safe ps id).2.1 := by
  unfold rpV
  split
  · rename_i h
    exact decV_by (pb_by (nowL_by ps safe hb0 hb1) h.2.1 4 (by rw [nowL_length]; omega))
  · exact By.nil
theorem dpage_rp {safe : List (List Int)} {ps : List S185} {id : Int} (hb0 : ∀ l ∈ safe, By l) (hb1 : ∀ p ∈ ps, By p.f1) (hok : okDisk safe ps) : ∃ v : Nat × Int × Int × Int × List Int, Cv (fun k => impl_dpage.f k safe ps id) v ∧ ((rpV safe ps id).2.2 = true → v.1 = 0 ∧ v.2.2.1 = (rpV safe ps id).1 ∧ v.2.2.2.2 = (rpV safe ps id).2.1) ∧ ((rpV safe ps id).2.2 = false → v.1 ≠ 0) := by
  have hn := nowL_length ps safe
  have hsz := hok.2.1
  by_cases hr : 0 ≤ id ∧ id < (safe.length : Int) / 4
  case neg =>
    have e : rpV safe ps id = (0, [], false) := if_neg (fun h => hr h.2)
    rw [e]
    refine ⟨(1, 0, 0, 0, []), (Cv.of (o := some (1, 0, 0, 0, [])) rfl).congr (fun k => ?_), fun h => (by cases h), fun _ => by decide⟩
    unfold impl_dpage.f
    rw [if_neg hr]
  have e : rpV safe ps id = decV id (pb (nowL safe ps) id 4) := if_pos ⟨hok, hr⟩
  rw [e]
  have hby : By (pb (nowL safe ps) id 4) := pb_by (nowL_by ps safe hb0 hb1) hr.1 4 (by omega)
  obtain ⟨v, hv, h2⟩ := parse_dec (id := id) hby
  refine ⟨v, hv.congr (fun k => ?_), h2⟩
  unfold impl_dpage.f
  rw [if_pos hr, acc_ok hok hr.1 4 (by omega), Option.bind_some]
/-- The superblock that a page holds, if it holds one. -/
def quad (b : List Int) : Int × Int × Int × Int := (leV (b.take 7), leV ((b.take 12).drop 8), leV ((b.take 16).drop 12), leV ((b.take 20).drop 16))
def supP (n : Int) (p : Int × List Int × Bool) (id : Int) : Prop := p.2.2 = true ∧ p.1 = 1 ∧ p.2.1.length = 20 ∧ rd p.2.1 7 = 0 ∧ okSuper (quad p.2.1).1 (quad p.2.1).2.1 (quad p.2.1).2.2.1 (quad p.2.1).2.2.2 = true ∧ Int.tmod (quad p.2.1).1 2 = id ∧ (quad p.2.1).2.2.1 ≤ n
instance (n : Int) (p : Int × List Int × Bool) (id : Int) : Decidable (supP n p id) := by unfold supP; infer_instance
end Go.Proofs.Ytlopmffdebhpfaa.Pure

/-! ## FLP -/
namespace Go.Proofs.Ytlopmffdebhpfaa.Pure
open Go.RowKit Go.Proofs.Ytlopmffdebhpfaa.G Go.Proofs.YtlopmffdebhpfaaW.PrintWords Go.Proofs.YtlopmffdebhpfaaW.PrintLast Go.Proofs.YtlopmffdebhpfaaW.PrintMore
set_option linter.unusedVariables false

/-! ### numbers marked, held and compared -/
theorem eqI_l0 (k : Nat) : ∀ (r pre : List Int), (pre ++ r).length ≤ 9223372036854775806 → laws_eqIntS.l0 (k + r.length + 1) (pre ++ r) (pre ++ r) (pre.length : Int) = some true
  | [], pre, hm => by
    unfold laws_eqIntS.l0
    rw [if_neg (by simp)]
  | x :: r, pre, hm => by
    have h1 := mid_len pre r x
    rw [show k + (x :: r).length + 1 = (k + r.length + 1) + 1 by simp only [List.length_cons]; omega]
    conv => lhs; unfold laws_eqIntS.l0
    rw [if_pos (by omega), if_pos (by omega), if_pos (by omega), if_pos rfl, w64 (by omega) (by omega), mid_snoc, ← snoc_len pre x]
    exact eqI_l0 k r (pre ++ [x]) (by simpa using hm)
theorem eqI {l : List Int} (hm : l.length ≤ 9223372036854775806) : Cv (fun k => laws_eqIntS.f k l l) true := by
  unfold laws_eqIntS.f
  exact Cv.pos rfl (Cv.from (m := l.length + 1) (fun k => eqI_l0 k l [] (by simpa using hm)))
theorem markI_l0 (k : Nat) : ∀ (r pre : List Int) (m : Int), 0 ≤ m → m + r.length ≤ 4611686018427387904 → (pre ++ r).length ≤ 9223372036854775806 →
    laws_markIntS.l0 (k + r.length + 1) (pre ++ r) m (pre.length : Int) = some (m + r.length, pre ++ imarks r.length m)
  | [], pre, m, h0, h1, hm => by
    unfold laws_markIntS.l0
    rw [if_neg (by simp)]
    simp [imarks]
  | x :: r, pre, m, h0, h1, hm => by
    have h2 := mid_len pre r x
    simp only [List.length_cons] at h1
    rw [show k + (x :: r).length + 1 = (k + r.length + 1) + 1 by simp only [List.length_cons]; omega]
    conv => lhs; unfold laws_markIntS.l0
    rw [if_pos (by omega), if_pos (by omega), set_mid, w64 (n := (pre.length : Int) + 1) (by omega) (by omega), w64 (n := m + 1) (by omega) (by omega), ← snoc_len pre m]
    rw [markI_l0 k r (pre ++ [m]) (m + 1) (by omega) (by omega) (by simpa using hm)]
    simp only [List.length_cons, imarks, List.append_assoc, List.singleton_append]
    congr 2
    omega
theorem markI {l : List Int} {m : Int} (h0 : 0 ≤ m) (h1 : m + l.length ≤ 4611686018427387904) : Cv (fun k => laws_markIntS.f k l m) (m + l.length, imarks l.length m) :=
  Cv.from (m := l.length + 1) (fun k => by
    have h := markI_l0 k l [] m h0 h1 (by simp; omega)
    unfold laws_markIntS.f
    exact h)
theorem heldI_l0 (k : Nat) : ∀ (n : Nat) (pre : List Int) (m : Int), 0 ≤ m → m + n ≤ 4611686018427387904 → pre.length + n ≤ 4611686018427387904 →
    laws_heldIntS.l0 (k + n + 1) (pre ++ imarks n m) m (pre.length : Int) = some (m + n)
  | 0, pre, m, h0, h1, hm => by
    unfold laws_heldIntS.l0
    rw [if_neg (by simp [imarks])]
    simp
  | n + 1, pre, m, h0, h1, hm => by
    have h2 := mid_len pre (imarks n (m + 1)) m
    rw [imarks_length] at h2
    rw [← Nat.add_assoc k n 1]
    conv => lhs; unfold laws_heldIntS.l0
    rw [imarks, if_pos (by omega), if_pos (by omega), rd_mid, if_pos rfl, w64 (n := m + 1) (by omega) (by omega), w64 (by omega) (by omega), mid_snoc, ← snoc_len pre m]
    rw [heldI_l0 k n (pre ++ [m]) (m + 1) (by omega) (by omega) (by simp; omega)]
    congr 1
    omega
theorem heldI {n : Nat} {m : Int} (h0 : 0 ≤ m) (h1 : m + n ≤ 4611686018427387904) : Cv (fun k => laws_heldIntS.f k (imarks n m) m) (m + n) :=
  Cv.from (m := n + 1) (fun k => by
    have h := heldI_l0 k n [] m h0 h1 (by simp; omega)
    unfold laws_heldIntS.f
    exact h)

/-! ### the numbers of one page of the list -/
def chv : Nat → List Int → List Int
  | 0, _ => []
  | c + 1, b => leV (b.take 4) :: chv c (b.drop 4)
def ins : List Int → List Int → Option (List Int)
  | [], f => some f
  | x :: r, f => if 0 < f.length then (if x ≤ rd f ((f.length : Int) - 1) then none else ins r (f ++ [x])) else ins r (f ++ [x])
theorem chv_len : ∀ (c : Nat) (b : List Int), (chv c b).length = c
  | 0, _ => rfl
  | c + 1, b => by simp [chv, chv_len c]
theorem ins_len : ∀ (xs f g : List Int), ins xs f = some g → g.length = f.length + xs.length
  | [], f, g, h => by
    obtain rfl := Option.some.inj h
    simp
  | x :: r, f, g, h => by
    unfold ins at h
    have hr : ins r (f ++ [x]) = some g := by
      split at h
      · split at h
        · cases h
        · exact h
      · exact h
    have := ins_len r (f ++ [x]) g hr
    simp at this ⊢
    omega
theorem rd_last (f : List Int) (x : Int) : rd (f ++ [x]) (((f ++ [x]).length : Int) - 1) = x := by
  have h := rd_mid f [] x
  rw [show (((f ++ [x]).length : Nat) : Int) - 1 = (f.length : Int) by simp]
  exact h
theorem impl_in : ∀ (c : Nat) (b f : List Int), b.length = 4 * c → By b → f.length + c ≤ 1000000 → ∃ K, ∀ k m, K ≤ k → K ≤ m → flIn k m b f = some (ins (chv c b) f)
  | 0, b, f, hl, hb, hf => ⟨1, fun k m _ hm => by
    obtain ⟨m, rfl⟩ : ∃ j, m = j + 1 := ⟨m - 1, by omega⟩
    unfold flIn
    rw [if_neg (by omega)]
    rfl⟩
  | c + 1, b, f, hl, hb, hf => by
    obtain ⟨K1, h1⟩ := numV4 (l := b.take 4) (hb.take 4) (by rw [List.length_take]; omega)
    obtain ⟨K2, h2⟩ := impl_in c (b.drop 4) (f ++ [leV (b.take 4)]) (by rw [List.length_drop]; omega) (hb.drop 4) (by simp; omega)
    refine ⟨max K1 K2 + 1, fun k m hk hm => ?_⟩
    obtain ⟨m, rfl⟩ : ∃ j, m = j + 1 := ⟨m - 1, by omega⟩
    unfold flIn chv ins
    rw [if_pos (by omega), if_pos (by omega), show impl_numberAt.f k (b.take 4) = some (leV (b.take 4)) from h1 k (by omega), Option.bind_some, h2 k m (by omega) (by omega)]
    split
    · split
      · rfl
      · rw [if_pos (by omega)]
    · rw [if_pos (by omega)]
theorem mid4 (body : List Int) (i : Nat) : ((body.take (i + 4)).drop i) = (body.drop i).take 4 := by
  rw [List.drop_take]
  congr 1
  omega
theorem spec_in {own : List Int} {seen : List Bool} {body : List Int} {now : List (List Int)} {v : List Int × List Int × Bool} (hb : By body) (hbl : body.length ≤ 240) (h4 : 4 ≤ body.length) :
    ∀ (c i : Nat) (f : List Int) (last : Int), body.length = i + 4 * c → f.length + c ≤ 1000000 → (0 < f.length → last = rd f ((f.length : Int) - 1)) →
      (ins (chv c (body.drop i)) f = none → v = ([], [], false)) → (∀ g, ins (chv c (body.drop i)) f = some g → ∀ last', (0 < g.length → last' = rd g ((g.length : Int) - 1)) → Cv (fun k => spec_FreeList.l0 k g own seen last' (leV (body.take 4)) now) v) →
      Cv (fun k => spec_FreeList.l1 k f own seen last body (i : Int) now) v
  | 0, i, f, last, hl, hf, hlast, hn, hs => by
    refine Cv.step (fun k => spec_FreeList.l1.eq_2 _ _ _ _ _ _ _ k) (Cv.neg (by omega) (Cv.pos (by omega) (Cv.bind (lowV (hb.take 4) (by rw [List.length_take]; omega)) ?_)))
    exact hs f rfl last hlast
  | c + 1, i, f, last, hl, hf, hlast, hn, hs => by
    have hw : wrap64 ((i : Int) + 4) = ((i + 4 : Nat) : Int) := by rw [w64 (by omega) (by omega)]; omega
    refine Cv.step (fun k => spec_FreeList.l1.eq_2 _ _ _ _ _ _ _ k) ?_
    rw [hw]
    refine Cv.pos (by omega) (Cv.pos (by omega) (Cv.pos (by omega) (Cv.pos (by omega) ?_)))
    rw [Int.toNat_natCast, Int.toNat_natCast, mid4]
    refine Cv.bind (lowV ((hb.drop i).take 4) (by rw [List.length_take]; omega)) ?_
    have hnext : Cv (fun k => spec_FreeList.l1 k (f ++ [leV ((body.drop i).take 4)]) own seen (leV ((body.drop i).take 4)) body ((i + 4 : Nat) : Int) now) v ∨ (0 < f.length ∧ leV ((body.drop i).take 4) ≤ rd f ((f.length : Int) - 1)) := by
      by_cases hbad : 0 < f.length ∧ leV ((body.drop i).take 4) ≤ rd f ((f.length : Int) - 1)
      · exact .inr hbad
      refine .inl (spec_in hb hbl h4 c (i + 4) (f ++ [leV ((body.drop i).take 4)]) _ (by omega) (by simp; omega) (fun _ => (rd_last _ _).symm) (fun h => hn ?_) (fun g h => hs g ?_))
      all_goals
        unfold chv ins
        rw [List.drop_drop]
        split
        · rw [if_neg (fun h2 => hbad ⟨by assumption, h2⟩)]
          exact h
        · exact h
    by_cases hp : (f.length : Int) > 0
    · refine Cv.pos hp ?_
      by_cases hle : leV ((body.drop i).take 4) ≤ last
      · have hv : v = ([], [], false) := hn (by
          unfold chv ins
          rw [if_pos (by omega), if_pos (by rw [← hlast (by omega)]; exact hle)])
        rw [hv]
        exact Cv.pos hle (Cv.of rfl)
      · refine Cv.neg hle (Cv.pos (by omega) ?_)
        rcases hnext with h | h
        · exact h
        · exact absurd h.2 (by rw [← hlast (by omega)]; exact hle)
    · refine Cv.neg hp (Cv.pos (by omega) ?_)
      rcases hnext with h | h
      · exact h
      · exact absurd h.1 (by omega)

/-! ### the list, page by page -/
def nf : List Bool → Nat
  | [] => 0
  | b :: r => (if b then 0 else 1) + nf r
theorem nf_set : ∀ (s : List Bool) (i : Nat), i < s.length → s.getD i false = false → nf (s.set i true) + 1 = nf s
  | b :: r, 0, _, h => by
    have hb : b = false := by simpa using h
    subst hb
    simp [nf]
    omega
  | b :: r, i + 1, hi, h => by
    have ih := nf_set r i (by simpa using hi) (by simpa using h)
    simp only [List.set_cons_succ, nf]
    omega
theorem nf_rep : ∀ (n : Nat), nf (List.replicate n false) = n
  | 0 => rfl
  | n + 1 => by simp only [List.replicate_succ, nf, nf_rep n]; simp; omega
theorem decV_len {id : Int} {l : List Int} : (decV id l).2.1.length ≤ 240 := by
  unfold decV
  split
  · rename_i h
    have hs : 0 ≤ sizeOf2 l ∨ sizeOf2 l < 0 := by omega
    show (bodyOf l).length ≤ _
    unfold bodyOf
    rw [List.length_drop, List.length_take]
    omega
  · simp
theorem rpV_small (safe : List (List Int)) (ps : List S185) (id : Int) : (rpV safe ps id).2.1.length ≤ 240 := by
  unfold rpV
  split
  · exact decV_len
  · simp
theorem rpV_range {safe : List (List Int)} {ps : List S185} {id : Int} (h : (rpV safe ps id).2.2 = true) : 0 ≤ id ∧ id < (safe.length : Int) / 4 := by
  unfold rpV at h
  split at h
  · rename_i hh
    exact hh.2
  · cases h
theorem fl_both {safe : List (List Int)} {ps : List S185} (hb0 : ∀ l ∈ safe, By l) (hb1 : ∀ p ∈ ps, By p.f1) (hok : okDisk safe ps) : ∀ (d : Nat) (id : Int) (free own : List Int) (seen : List Bool) (last : Int),
    (seen.length : Int) = (safe.length : Int) / 4 → nf seen = d → (own.length : Int) + d = (safe.length : Int) / 4 → (∀ x : Int, 0 ≤ x → x < (seen.length : Int) → rdOf false seen x = decide (x ∈ own)) → free.length ≤ 60 * own.length → (0 < free.length → last = rd free ((free.length : Int) - 1)) →
    ∃ v : List Int × List Int × Bool, Cv (fun k => spec_FreeList.l0 k free own seen last id (nowL safe ps)) v ∧ (∃ K, ∀ k m, K ≤ k → K ≤ m → flOut k safe ps m id free own = some v) ∧ v.1.length ≤ 100000 ∧ v.2.1.length ≤ 100000 := by
  have hsz := hok.2.1
  intro d
  induction d using Nat.strongRecOn with
  | ind d ih =>
  intro id free own seen last hsl hnf hol hseen hfl hlast
  by_cases h0 : id = 0
  · refine ⟨(free, own, true), Cv.step (fun k => spec_FreeList.l0.eq_2 _ _ _ _ _ _ k) (Cv.pos h0 (Cv.of rfl)), ⟨1, fun k m _ hm => ?_⟩, by dsimp only; omega, by dsimp only; omega⟩
    obtain ⟨m, rfl⟩ : ∃ j, m = j + 1 := ⟨m - 1, by omega⟩
    unfold flOut
    rw [if_pos h0]
  have hv := spec_view (id := id) hb0 hb1 hok
  obtain ⟨v', ⟨K1, hK1⟩, hyes, hno⟩ := dpage_rp (id := id) hb0 hb1 hok
  have hby := rpV_by (id := id) hb0 hb1
  have hsm := rpV_small safe ps id
  have hrg := rpV_range (safe := safe) (ps := ps) (id := id)
  generalize rpV safe ps id = p at hv hyes hno hby hsm hrg
  obtain ⟨kind, body, ok⟩ := p
  obtain ⟨tag, rid, kind', size, body'⟩ := v'
  dsimp only at hyes hno hby hsm hrg
  have hK1 : ∀ k, K1 ≤ k → impl_dpage.f k safe ps id = some (tag, rid, kind', size, body') := hK1
  have hj : ∀ bd, Cv (fun k => spec_FreeList.j1 k free own seen last id bd true (nowL safe ps)) ([], [], false) := fun bd => Cv.step (fun k => spec_FreeList.j1.eq_2 _ _ _ _ _ _ _ _ k) (Cv.pos rfl (Cv.of rfl))
  have hbad : Cv (fun k => spec_FreeList.l0 k free own seen last id (nowL safe ps)) ([], [], false) → (∀ k m, K1 ≤ k → flOut k safe ps (m + 1) id free own = some ([], [], false)) → ∃ v : List Int × List Int × Bool, Cv (fun k => spec_FreeList.l0 k free own seen last id (nowL safe ps)) v ∧ (∃ K, ∀ k m, K ≤ k → K ≤ m → flOut k safe ps m id free own = some v) ∧ v.1.length ≤ 100000 ∧ v.2.1.length ≤ 100000 := fun h1 h2 =>
    ⟨([], [], false), h1, ⟨K1 + 1, fun k m hk hm => by
      obtain ⟨m, rfl⟩ : ∃ j, m = j + 1 := ⟨m - 1, by omega⟩
      exact h2 k m (by omega)⟩, by simp, by simp⟩
  have hstep : ∀ {v}, Cv (fun k => (fun (bt934 : Int × List Int × Bool) => (if bt934.2.2 = true then (if bt934.1 = 4 then (if 0 ≤ id then (if id < (seen.length : Int) then (if rdOf false seen id = true then (spec_FreeList.j1 k free own seen last id bt934.2.1 true (nowL safe ps)) else (if (bt934.2.1.length : Int) < 4 then (spec_FreeList.j1 k free own seen last id bt934.2.1 true (nowL safe ps)) else (spec_FreeList.j1 k free own seen last id bt934.2.1 (((bt934.2.1.length : Int) % 4) != 0) (nowL safe ps)))) else (none)) else (none)) else (spec_FreeList.j1 k free own seen last id bt934.2.1 true (nowL safe ps))) else (spec_FreeList.j1 k free own seen last id bt934.2.1 true (nowL safe ps)))) (kind, body, ok)) v →
      Cv (fun k => spec_FreeList.l0 k free own seen last id (nowL safe ps)) v := fun h => Cv.step (fun k => spec_FreeList.l0.eq_2 _ _ _ _ _ _ k) (Cv.neg h0 (Cv.bind hv h))
  cases ok with
  | false =>
    refine hbad (hstep (Cv.neg (fun h => by cases h) (hj _))) (fun k m hk => ?_)
    unfold flOut
    rw [if_neg h0, hK1 k hk, Option.bind_some, if_neg (hno rfl)]
  | true =>
  obtain ⟨rfl, rfl, rfl⟩ := hyes rfl
  obtain ⟨hr0, hr1⟩ := hrg rfl
  have hse := hseen id hr0 (by omega)
  by_cases hk4 : kind' = 4
  case neg =>
    refine hbad (hstep (Cv.pos rfl (Cv.neg hk4 (hj _)))) (fun k m hk => ?_)
    unfold flOut
    rw [if_neg h0, hK1 k hk, Option.bind_some, if_pos rfl]
    split <;> first | rfl | rw [if_neg hk4]
  by_cases hin : id ∈ own
  · refine hbad (hstep (Cv.pos rfl (Cv.pos hk4 (Cv.pos hr0 (Cv.pos (by omega) (Cv.pos (by rw [hse]; exact decide_eq_true hin) (hj _))))))) (fun k m hk => ?_)
    unfold flOut
    rw [if_neg h0, hK1 k hk, Option.bind_some, if_pos rfl, if_pos hin]
  have hns : ¬ rdOf false seen id = true := by rw [hse, decide_eq_true_eq]; exact hin
  by_cases hl4 : (body'.length : Int) < 4
  · refine hbad (hstep (Cv.pos rfl (Cv.pos hk4 (Cv.pos hr0 (Cv.pos (by omega) (Cv.neg hns (Cv.pos hl4 (hj _)))))))) (fun k m hk => ?_)
    unfold flOut
    rw [if_neg h0, hK1 k hk, Option.bind_some, if_pos rfl, if_neg hin, if_pos hk4, if_pos (by dsimp only; omega)]
  by_cases hm4 : (body'.length : Int) % 4 = 0
  case neg =>
    refine hbad (hstep (Cv.pos rfl (Cv.pos hk4 (Cv.pos hr0 (Cv.pos (by omega) (Cv.neg hns (Cv.neg hl4 ?_))))))) (fun k m hk => ?_)
    · dsimp only
      rw [show ((body'.length : Int) % 4 != 0) = true from bne_iff_ne.mpr hm4]
      exact hj _
    · unfold flOut
      rw [if_neg h0, hK1 k hk, Option.bind_some, if_pos rfl, if_neg hin, if_pos hk4, if_neg (by dsimp only; omega), if_neg hm4]
  obtain ⟨c, hc⟩ : ∃ c : Nat, body'.length = 4 + 4 * c := ⟨body'.length / 4 - 1, by omega⟩
  have hjn : ∀ {v}, Cv (fun k => spec_FreeList.l1 k free (own ++ [id]) (seen.set id.toNat true) last body' 4 (nowL safe ps)) v → Cv (fun k => spec_FreeList.l0 k free own seen last id (nowL safe ps)) v := fun {v} h => by
    refine hstep (Cv.pos rfl (Cv.pos hk4 (Cv.pos hr0 (Cv.pos (by omega) (Cv.neg hns (Cv.neg hl4 ?_))))))
    dsimp only
    rw [show ((body'.length : Int) % 4 != 0) = false from bne_eq_false_iff_eq.mpr hm4]
    exact Cv.step (fun k => spec_FreeList.j1.eq_2 _ _ _ _ _ _ _ _ k) (Cv.neg (by decide) (Cv.pos hr0 (Cv.pos (by omega) (Cv.pos (by omega) h))))
  have hout : ∀ k m, K1 ≤ k → flOut k safe ps (m + 1) id free own = (flIn k k (body'.drop 4) free).bind fun q => match q with
      | none => some ([], [], false)
      | some free2 => (impl_numberAt.f k (body'.take 4)).bind fun n => if (Lit.int .i64 n).wf = true then flOut k safe ps m n free2 (own ++ [id]) else none := fun k m hk => by
    conv => lhs; unfold flOut
    rw [if_neg h0, hK1 k hk, Option.bind_some, if_pos rfl, if_neg hin, if_pos hk4, if_neg (by dsimp only; omega), if_pos hm4, if_neg (by dsimp only; omega), if_pos (by omega)]
    rfl
  obtain ⟨K2, hK2⟩ := impl_in c (body'.drop 4) free (by rw [List.length_drop]; omega) (hby.drop 4) (by omega)
  have hsi := fun (v : List Int × List Int × Bool) => spec_in (own := own ++ [id]) (seen := seen.set id.toNat true) (now := nowL safe ps) (v := v) hby hsm (by omega) c 4 free last (by omega) (by omega) hlast
  cases hins : ins (chv c (body'.drop 4)) free with
  | none =>
    refine ⟨([], [], false), hjn (hsi _ (fun _ => rfl) (fun g hg => by rw [hins] at hg; cases hg)), ⟨max K1 K2 + 1, fun k m hk hm => ?_⟩, by simp, by simp⟩
    obtain ⟨m, rfl⟩ : ∃ j, m = j + 1 := ⟨m - 1, by omega⟩
    rw [hout k m (by omega), hK2 k k (by omega) (by omega), hins, Option.bind_some]
  | some g =>
    have hgl := ins_len _ _ _ hins
    rw [chv_len] at hgl
    have hlv := leV_range (body'.take 4) (hby.take 4)
    have hl4' : (body'.take 4).length = 4 := by rw [List.length_take]; omega
    rw [hl4'] at hlv
    obtain ⟨K3, hK3⟩ := numV4 (l := body'.take 4) (hby.take 4) (by omega)
    have hK3 : ∀ k, K3 ≤ k → impl_numberAt.f k (body'.take 4) = some (leV (body'.take 4)) := hK3
    have hset := nf_set seen id.toNat (by omega) (by simpa [rdOf] using hns)
    have hdp : (d : Nat) = nf (seen.set id.toNat true) + 1 := by omega
    have hmark : ∀ x : Int, 0 ≤ x → x < ((seen.set id.toNat true).length : Int) → rdOf false (seen.set id.toNat true) x = decide (x ∈ own ++ [id]) := fun x hx0 hx1 => by
      rw [List.length_set] at hx1
      by_cases hxe : x = id
      · subst hxe
        unfold rdOf
        rw [List.getD_eq_getElem?_getD, List.getElem?_set_self (by omega)]
        simp
      · have hne : id.toNat ≠ x.toNat := by omega
        have h2 := hseen x hx0 hx1
        unfold rdOf at h2 ⊢
        rw [List.getD_eq_getElem?_getD, List.getElem?_set_ne hne, ← List.getD_eq_getElem?_getD, h2]
        simp [hxe]
    have hIH := fun (last' : Int) (hl' : 0 < g.length → last' = rd g ((g.length : Int) - 1)) => ih (nf (seen.set id.toNat true)) (by omega) (leV (body'.take 4)) g (own ++ [id]) (seen.set id.toNat true) last' (by rw [List.length_set]; exact hsl) rfl (by simp; omega) hmark (by simp; omega) hl'
    obtain ⟨v, hv1, ⟨K4, hK4⟩, hv3, hv4⟩ := hIH (rd g ((g.length : Int) - 1)) (fun _ => rfl)
    refine ⟨v, hjn (hsi v (fun h => by rw [hins] at h; cases h) (fun g' hg' last' hl' => ?_)), ⟨max (max K1 K2) (max K3 K4) + 1, fun k m hk hm => ?_⟩, hv3, hv4⟩
    · rw [hins] at hg'
      obtain rfl := Option.some.inj hg'
      obtain ⟨v2, hw1, ⟨K5, hK5⟩, _, _⟩ := hIH last' hl'
      have e1 := hK4 (max K4 K5) (max K4 K5) (by omega) (by omega)
      rw [hK5 (max K4 K5) (max K4 K5) (by omega) (by omega)] at e1
      obtain rfl := Option.some.inj e1
      exact hw1
    · obtain ⟨m, rfl⟩ : ∃ j, m = j + 1 := ⟨m - 1, by omega⟩
      rw [hout k m (by omega), hK2 k k (by omega) (by omega), hins, Option.bind_some]
      dsimp only
      rw [hK3 k (by omega), Option.bind_some, if_pos (WalkArith.wf_i64 (by omega))]
      exact hK4 k m (by omega) (by omega)
theorem list_both {safe : List (List Int)} {ps : List S185} (hb0 : ∀ l ∈ safe, By l) (hb1 : ∀ p ∈ ps, By p.f1) (z0 z1 z2 z3 : Int) : ∃ v : List Int × List Int × Bool, Cv (fun k => spec_FreeList.f k safe ps z0 z1 z2 z3) v ∧ Cv (fun k => impl_FreeList.f k safe ps z3) v ∧ v.1.length ≤ 100000 ∧ v.2.1.length ≤ 100000 := by
  by_cases hok : okDisk safe ps
  case neg =>
    refine ⟨([], [], false), ?_, ?_, by simp, by simp⟩
    · unfold spec_FreeList.f
      exact Cv.bind (Cv.of rfl) (Cv.bind (Cv.of rfl) (Cv.bind spec_ok (Cv.neg (by rw [decide_eq_true_eq]; exact hok) (Cv.of rfl))))
    · unfold impl_FreeList.f
      exact Cv.bind impl_ok (Cv.neg (by rw [decide_eq_true_eq]; exact hok) (Cv.of rfl))
  have hsz := hok.2.1
  have hN : wrap64 ((safe.length : Int) / 4) = (safe.length : Int) / 4 := w64 (by omega) (by omega)
  obtain ⟨v, h1, ⟨K, h2⟩, h3, h4⟩ := fl_both hb0 hb1 hok ((safe.length : Int) / 4).toNat z3 [] [] (List.replicate ((safe.length : Int) / 4).toNat false) 0 (by rw [List.length_replicate]; omega) (nf_rep _) (by simp; omega) (fun x _ _ => by
    unfold rdOf
    rw [List.getD_eq_getElem?_getD, List.getElem?_replicate]
    split <;> simp) (by simp) (fun h => by simp at h)
  refine ⟨v, ?_, ?_, h3, h4⟩
  · unfold spec_FreeList.f
    refine Cv.bind (Cv.of rfl) (Cv.bind (Cv.of rfl) (Cv.bind spec_ok (Cv.pos (decide_eq_true hok) (Cv.bind (spec_now hok) (Cv.bind (v := (safe.length : Int) / 4) (Cv.of ?_) (Cv.pos (by omega) (Cv.pos (by omega) h1)))))))
    unfold spec_l2Pages.f
    rw [hN]
  · unfold impl_FreeList.f
    exact Cv.bind impl_ok (Cv.pos (decide_eq_true hok) ⟨K, fun k hk => h2 k k hk hk⟩)
end Go.Proofs.Ytlopmffdebhpfaa.Pure

/-! ## OpenS -/
namespace Go.Proofs.Ytlopmffdebhpfaa.G
open Go.RowKit Go.ChangeShapes Go.WideShapes Go.ChangeAt Go.Proofs.YtlopmffdebhpfaaW.PrintWords Go.Proofs.YtlopmffdebhpfaaW.PrintLast Go.Proofs.YtlopmffdebhpfaaW.PrintMore
structure OSup where
  z0 : Int
  z1 : Int
  z2 : Int
  z3 : Int
  hz : (Lit.int .i64 z0).wf = true ∧ (Lit.int .i64 z1).wf = true ∧ (Lit.int .i64 z2).wf = true ∧ (Lit.int .i64 z3).wf = true
def OSup.v (o : OSup) : Value := .agg #[.int .i64 o.z0, .int .i64 o.z1, .int .i64 o.z2, .int .i64 o.z3]
section
variable {H : Type} {enc : TypeId × Value → H} {w : World} {base : Nat} {spare : Nat → Bool} {held : Bool}
set_option maxRecDepth 100000 in
theorem open_sup {r : Reach} {b0 : Nat} {v : Value} {d : DataW H} {p : List MemPlace} (hv : Value.okWide Try.prog w r b0 90 v) (h : DataW.Trod enc Try.prog w base spare held 90 v d p) : ∃ o : OSup, v = o.v := by
  obtain ⟨v0, v1, v2, v3, y0, y1, y2, y3, n, rfl, _, _, h0, h1, h2, h3⟩ := Go.Joins.open_agg4 Try.underlying90 (by kernel_rfl) (by kernel_rfl) hv h
  obtain ⟨m0, e0, _, w0⟩ := DataW.trod_int Try.underlying3 h0
  obtain ⟨m1, e1, _, w1⟩ := DataW.trod_int Try.underlying3 h1
  obtain ⟨m2, e2, _, w2⟩ := DataW.trod_int Try.underlying3 h2
  obtain ⟨m3, e3, _, w3⟩ := DataW.trod_int Try.underlying3 h3
  injection e0 with e0
  injection e1 with e1
  injection e2 with e2
  injection e3 with e3
  subst e0
  subst e1
  subst e2
  subst e3
  exact ⟨⟨m0, m1, m2, m3, w0, w1, w2, w3⟩, rfl⟩
end
end Go.Proofs.Ytlopmffdebhpfaa.G

/-! ## PureFnExactFreeList -/
namespace Go.Proofs.Ytlopmffdebhpfaa.Pure
open Go.RowKit Go.Proofs.Ytlopmffdebhpfaa.G Go.Proofs.YtlopmffdebhpfaaW.PrintWords Go.Proofs.YtlopmffdebhpfaaW.PrintLast Go.Proofs.YtlopmffdebhpfaaW.PrintMore
theorem FnExactFreeList (w : World) (o : ODisk w) (z : OSup) : Calls Try.prog 13 #[o.v, z.v] w fun e w' => e = .returned (.bool true) ∧ Below w.heap.size w w' := by
  obtain ⟨A0, c0, A1, c1, l0, l1, hc0, hc1, hr0, hr1, hw0, hw1'⟩ := o
  obtain ⟨z0, z1, z2, z3, hz⟩ := z
  have hw1 := fun q hq => (hw1' q hq).1
  show Calls Try.prog 13 #[.agg #[.slice A0 l0.length c0, .slice A1 l1.length c1], .agg #[.int .i64 z0, .int .i64 z1, .int .i64 z2, .int .i64 z3]] w _
  obtain ⟨s, hs, h1, h2⟩ := szD (ls := l0) (ps := l1) (a := 1048576) (by decide) (by decide) (rows_len hr0) hr0.2.1 (pends_len hr1) hr1.2.1
  obtain ⟨k, hk⟩ := hs.get
  by_cases hneg : s < 0
  · exact laws_FnExactFreeList.small k A0 c0 l0 A1 c1 l1 z0 z1 z2 z3 s w hr0 hc0 hr1 hc1 hk hneg
  have htot := h2 (by omega)
  have hl0 : ∀ l ∈ l0, l.length ≤ 1048576 := fun l hl => by have := le_totL hl; omega
  have hl1 : ∀ q ∈ l1, q.f1.length ≤ 1048576 := fun q hq => by have := le_totP4 hq; omega
  have hq1 : ∀ q ∈ l1.map cv, q.f1.length ≤ 1048576 := fun q hq => by
    obtain ⟨p, hp, rfl⟩ := List.mem_map.1 hq
    exact hl1 p hp
  have hb0 : ∀ l ∈ l0, By l := fun l hl => By.of_wf (hw0 l hl)
  have hb1 : ∀ q ∈ l1.map cv, By q.f1 := fun q hq => by
    obtain ⟨p, hp, rfl⟩ := List.mem_map.1 hq
    exact By.of_wf (hw1' p hp).2
  obtain ⟨⟨ra, rb, rc⟩, hspec, himpl, hra, hrb⟩ := list_both (safe := l0) (ps := l1.map cv) hb0 hb1 z0 z1 z2 z3
  dsimp only at hra hrb
  obtain ⟨k2, hk2⟩ := (toD (ls := l0) (ps := l1) (fun l hl => by have := hl0 l hl; omega) (by omega) (fun l hl => by have := hl1 l hl; omega) (by omega)).get
  obtain ⟨k3, hk3⟩ := hspec.get
  obtain ⟨k4, hk4⟩ := himpl.get
  obtain ⟨K5, hK5⟩ := eqI (l := ra) (by omega)
  obtain ⟨K5', hK5'⟩ := eqI (l := rb) (by omega)
  obtain ⟨k6, hk6⟩ := (eqD (ls := l0) (ps := l1.map cv) (fun l hl => by have := hl0 l hl; omega) (by omega) (fun l hl => by have := hq1 l hl; omega) (by rw [List.length_map]; omega)).get
  obtain ⟨K7, hK7⟩ := markI (l := ra) (m := 1) (by omega) (by omega)
  obtain ⟨K7', hK7'⟩ := markI (l := rb) (m := 1 + (ra.length : Int)) (by omega) (by omega)
  obtain ⟨K8, hK8⟩ := heldI (n := ra.length) (m := 1) (by omega) (by omega)
  obtain ⟨K8', hK8'⟩ := heldI (n := rb.length) (m := 1 + (ra.length : Int)) (by omega) (by omega)
  refine laws_FnExactFreeList.full k k2 k3 k4 (max K5 K5') k6 (max K7 K7') (max K8 K8') A0 c0 l0 A1 c1 l1 z0 z1 z2 z3 s l0 (l1.map cv) ra rb rc w hr0 hc0 hr1 hc1 hk hneg hk2 hk3 hk4 (hK5 _ (by omega)) (hK5' _ (by omega)) hk6 ?_ (hK7 _ (by omega)) (hK7' _ (by omega)) (hK8 _ (by omega)) (hK8' _ (by omega)) hz.2.2.2 (fun p hp => ?_)
  · rw [totP_cv]
    omega
  · obtain ⟨q, hq, rfl⟩ := List.mem_map.1 hp
    exact hw1 q hq
end Go.Proofs.Ytlopmffdebhpfaa.Pure

/-! ## LawFnExactFreeList -/
namespace Go.Proofs.Ytlopmffdebhpfaa.fnExactFreeList
open Go.ChangeShapes Go.WideShapes Go.ChangeAt Go.RowKit
open Go.ChangeMaps (open_string shut_string)
set_option linter.unusedVariables false
theorem own : ownKnob Try.prog.godebug = none := by kernel_rfl
theorem laidOut : laidOutB Try.prog = true := by kernel_rfl
set_option maxRecDepth 100000 in
theorem lifted (os : Os) (started : os.Started) (H : Type) (enc : TypeId × Value → H) :
    ReturnsInHanded {} Try.checked os 13 .any (Rows.fnExactFreeListSpec.pre6 enc Try.prog Try.f13 Rows.fnExactFreeListRow.domain false) (Rows.fnExactFreeListSpec.post enc Try.prog Try.f13 false true false false) := by
  refine returnsInHanded_of_change_sized (C := Try.checked) own started (by kernel_rfl) Try.func13
    (ChangeSpec.witness6 (enc := enc) (C := Try.checked) false ⟨#[], #[.agg #[.slice none 0 0, .slice none 0 0], .agg #[.int .i64 0, .int .i64 0, .int .i64 0, .int .i64 0]], []⟩ 8 (by kernel_rfl) (by kernel_rfl) (by kernel_rfl) (by kernel_rfl)) ?_
  intro W base args ds gs before hval0 hW hcnd hsz0 _
  have hval : ∀ (j : Nat) t v, Try.f13.params[j]? = some t → args[j]? = some v → Value.okWide Try.prog W .any base t v := hval0
  have hW' := hW
  obtain ⟨p, q, hA0, hV, rfl, hfz, hnd⟩ := hW
  have hA : DataW.TrodAll enc Try.prog W 0 (fun _ => true) true Try.f13.params.toList args.toList ds p := hA0
  rw [Try.params13] at hA hval
  obtain ⟨v0, vs0, d0, ds0, p0, q0, hargs, rfl, rfl, h0, r0⟩ := trodAll_cons hA
  obtain ⟨v1, vs1, d1, ds1, p1, q1, rfl, rfl, rfl, h1, r1⟩ := trodAll_cons r0
  obtain ⟨rfl, rfl, rfl⟩ := trodAll_nil r1
  obtain rfl : args = #[v0, v1] := by cases args; simp_all
  obtain ⟨rfl, rfl⟩ := trodVars_none hV
  have k0 := h0
  have lt0 : ∀ x ∈ p0, x.block < W.heap.size := by obtain ⟨m, hm⟩ := k0; exact DataW.trod_lt m _ _ _ hm
  obtain ⟨o0, rfl⟩ := G.open_disk (hval 0 39 v0 rfl rfl) h0
  have k1 := h1
  have lt1 : ∀ x ∈ p1, x.block < W.heap.size := by obtain ⟨m, hm⟩ := k1; exact DataW.trod_lt m _ _ _ hm
  obtain ⟨o1, rfl⟩ := G.open_sup (hval 1 90 v1 rfl rfl) h1
  clear hA0 hval0 hsz0
  refine (Pure.FnExactFreeList W o0 o1).mono fun e W' ⟨he, bel⟩ => ?_
  subst he
  exact ⟨_, rfl, _, _, _, [], _, [], hW', trodAll_mk1 (shut_bool Try.underlying4 _), (trodAll_cons_mk (Below.trod laidOut (by kernel_rfl) (of_decide_eq_true (by kernel_rfl)) k0 bel lt0) (trodAll_cons_mk (Below.trod laidOut (by kernel_rfl) (of_decide_eq_true (by kernel_rfl)) k1 bel lt1) trodAll_mk0)), rfl, bel.frame _, fun h => by cases h⟩
theorem over : Rows.fnExactFreeListRow.holds Try.pinned (OpenSpec.ofChange Rows.fnExactFreeListSpec) :=
  OpenClaim.holds_of_wide 13 Try.f13 rfl rfl rfl rfl rfl rfl rfl ⟨rfl, rfl, rfl, rfl, rfl⟩ rfl rfl rfl rfl rfl (by kernel_rfl) Try.func13 (by kernel_rfl)
    (of_decide_eq_true (by kernel_rfl)) (by unfold Func.isWrapper; first | (rw [if_pos (by decide +kernel)]; kernel_rfl) | (rw [if_neg (by decide +kernel)]; exact ⟨rfl, rfl⟩))
    (fun os started H enc _ => lifted os started H enc)
theorem proved : Rows.FnExactFreeListSaid := over
#print axioms proved
end Go.Proofs.Ytlopmffdebhpfaa.fnExactFreeList
namespace Go.Proofs.Ytlopmffdebhpfaa
/-- The row, under a short name, for the claim. -/
theorem fnExactFreeList_holds : Rows.FnExactFreeListSaid := fnExactFreeList.proved
end Go.Proofs.Ytlopmffdebhpfaa
