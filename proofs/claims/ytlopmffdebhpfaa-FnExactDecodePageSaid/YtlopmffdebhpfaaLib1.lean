/- bytes.Join of two or more slices with an empty separator, and bytes.Clone: what each returns, in memory of the call's own. -/
import Derived.Test.YtlopmffdebhpfaaG0
import Derived.Test.YtlopmffdebhpfaaShelf
namespace Go.Proofs.Ytlopmffdebhpfaa.G
open Go.RowKit Go.Proofs.YtlopmffdebhpfaaW.PrintWords Go.Proofs.YtlopmffdebhpfaaW.PrintLast Go.Proofs.YtlopmffdebhpfaaW.PrintMore

/-- What a slice of numbers that is read holds, cell by cell. -/
theorem C_cells {k : IntKind} {w : World} {A : Option Addr} {n : Nat} {xs : List Int} (h : Kd.C (Kd.int k) w A n xs) :
    xs.length = n ∧ n ≤ 9223372036854775807 ∧ (0 < n → ∃ ad, A = some ad ∧ ∀ j x, xs[j]? = some x → w.cell? (ad.add j) = some (.int k x)) := by
  refine ⟨h.1, h.2.1, fun hn => ?_⟩
  obtain ⟨ad, e, hc⟩ := h.2.2 hn
  refine ⟨ad, e, fun j x hx => ?_⟩
  obtain ⟨c, _, hK, hcell⟩ := hc j x hx
  have hK' : c = [.int k x] := hK
  subst hK'
  have := hcell 0 _ rfl
  rwa [show (Kd.int k).sz = 1 from rfl, Nat.mul_one, Nat.add_zero] at this

theorem C_of_cells {k : IntKind} {w : World} {A : Option Addr} {xs : List Int} (hn : xs.length ≤ 9223372036854775807)
    (h : 0 < xs.length → ∃ ad, A = some ad ∧ ∀ j x, xs[j]? = some x → w.cell? (ad.add j) = some (.int k x)) : Kd.C (Kd.int k) w A xs.length xs := by
  refine ⟨rfl, hn, fun hp => ?_⟩
  obtain ⟨ad, e, hc⟩ := h hp
  refine ⟨ad, e, fun j x hx => ⟨[.int k x], rfl, rfl, fun i u hu => ?_⟩⟩
  have hi : i = 0 := by
    have := (List.getElem?_eq_some_iff.1 hu).1
    simp at this
    exact this
  subst hi
  obtain rfl : Value.int k x = u := by simpa using hu
  rw [show (Kd.int k).sz = 1 from rfl, Nat.mul_one, Nat.add_zero]
  exact hc j x hx

/-- Cells of one block tell a row that is read, as long as that block stays. -/
theorem F_of_cells {k : IntKind} {w : World} {ok : Nat → Prop} {g : Nat} {xs : List Int} (hg : ok g) (hn : xs.length ≤ 9223372036854775807)
    (hc : ∀ j x, xs[j]? = some x → w.cell? ⟨g, j, none⟩ = some (.int k x)) : Kd.F (Kd.int k) w ok (some ⟨g, 0, none⟩) xs.length xs := by
  intro W' hW
  refine C_of_cells hn (fun _ => ⟨_, rfl, fun j x hx => ?_⟩)
  rw [add_plain]
  have h1 := hc j x hx
  have hlt := World.block_lt_of_cell? w _ h1
  exact (World.cell?_of_block (w := w) (w' := W') (a := ⟨g, j, none⟩) (hW g hg hlt)).trans h1

theorem byte_back (x : Int) (h : 0 ≤ x ∧ x < 256) : ((UInt8.ofNat x.toNat).toNat : Int) = x := by
  rw [UInt8.toNat_ofNat', Nat.mod_eq_of_lt (by omega)]
  omega
theorem bytes_back : ∀ (l : List Int), (∀ x ∈ l, 0 ≤ x ∧ x < 256) → (Lib.bytesOf l).map (fun u => (u.toNat : Int)) = l
  | [], _ => rfl
  | x :: r, h => by
    have ih := bytes_back r (fun y hy => h y (List.mem_cons_of_mem _ hy))
    simp only [Lib.bytesOf, List.map_cons, List.map_map] at ih ⊢
    rw [byte_back x (h x List.mem_cons_self), ih]
theorem bytesOf_inj {l m : List Int} (hl : ∀ x ∈ l, 0 ≤ x ∧ x < 256) (hm : ∀ x ∈ m, 0 ≤ x ∧ x < 256) (h : Lib.bytesOf l = Lib.bytesOf m) : l = m := by
  rw [← bytes_back l hl, ← bytes_back m hm, h]
theorem bytesOf_flatten : ∀ (ls : List (List Int)), (ls.map Lib.bytesOf).flatten = Lib.bytesOf ls.flatten
  | [] => rfl
  | l :: r => by rw [List.map_cons, List.flatten_cons, bytesOf_flatten r, List.flatten_cons]; simp [Lib.bytesOf]
theorem join_empty : ∀ (ls : List (List UInt8)), Lib.join ls [] = ls.flatten
  | [] => rfl
  | [x] => by simp [Lib.join_one]
  | x :: y :: r => by
    have ih := join_empty (y :: r)
    unfold Lib.join at ih ⊢
    rw [List.intercalate, List.intersperse_cons_cons] at *
    simpa [List.intercalate] using ih

/-- bytes.Join at two parts or more, an empty separator, and bytes. -/
def bytes_Join.f (l0 : List (List Int)) (l1 : List Int) : Option (List Int) :=
  if 2 ≤ l0.length ∧ l1 = [] ∧ l0.length ≤ 1000000 ∧ l0.flatten.length ≤ 1000000 ∧ (∀ l ∈ l0, ∀ x ∈ l, 0 ≤ x ∧ x < 256) then some l0.flatten else none

theorem lens_bytes : ∀ (ls : List (List Int)), Lib.lens (ls.map Lib.bytesOf) = ls.flatten.length
  | [] => rfl
  | l :: r => by
    have ih := lens_bytes r
    simp only [Lib.lens, List.map_cons, List.sum_cons, List.flatten_cons, List.length_append] at ih ⊢
    rw [ih]; simp [Lib.bytesOf]

theorem bytes_Join.calls (A0 : Option Addr) (c0 : Nat) (l0 : List (List Int)) (A1 : Option Addr) (c1 : Nat) (l1 : List Int) (r : List Int) (w : World) (hr0 : Kd.C (Kd.slice 5 (Kd.int .u8)) w A0 l0.length l0) (hc0 : l0.length ≤ c0)
    (hr1 : Kd.C (Kd.int .u8) w A1 l1.length l1) (hc1 : l1.length ≤ c1) (h : bytes_Join.f l0 l1 = some r) :
    Calls Try.prog 153 #[.slice A0 l0.length c0, .slice A1 l1.length c1] w fun e w' => ∃ v0_ : Value, e = .returned (v0_) ∧ Kd.V (Kd.int .u8) 5 w' w.heap.size (fun k_ => (w.heap.size ≤ k_)) v0_ r ∧ Below w.heap.size w w' := by
  unfold bytes_Join.f at h
  split at h
  case isFalse => cases h
  rename_i hh
  obtain ⟨h2, rfl, hn, hl, hb⟩ := hh
  obtain rfl := Option.some.inj h
  obtain ⟨ad, rfl, hcells⟩ := hr0.2.2 (by omega)
  have hsl : ∀ j l, l0[j]? = some l → ∃ A c, w.cell? (ad.add j) = some (.slice A l.length c) ∧ l.length ≤ c ∧ Kd.C (Kd.int .u8) w A l.length l := by
    intro j l hj
    obtain ⟨c, _, ⟨A, c', hc', hlc, hC⟩, hcell⟩ := hcells j l hj
    subst hc'
    have := hcell 0 _ rfl
    rw [show (Kd.slice 5 (Kd.int .u8)).sz = 1 from rfl, Nat.mul_one, Nat.add_zero] at this
    exact ⟨A, c', this, hlc, hC⟩
  have hspot : ad.spot = none := by
    obtain ⟨l, hj⟩ : ∃ l, l0[0]? = some l := ⟨l0[0]'(by omega), by simp⟩
    obtain ⟨A, c, hcell, _⟩ := hsl 0 l hj
    have e : ad.add 0 = ad := by simp [Addr.add]
    rw [e] at hcell
    exact World.cell?_spot hcell
  obtain ⟨b, o, sp⟩ := ad
  simp only at hspot
  subst hspot
  let vs : List Value := (List.range l0.length).map fun j => (w.cell? ((⟨b, o, none⟩ : Addr).add j)).getD undef
  have hvs : ∀ j v, vs[j]? = some v → ∃ l, l0[j]? = some l ∧ ∃ A c, v = .slice A l.length c ∧ w.cell? ((⟨b, o, none⟩ : Addr).add j) = some v ∧ Kd.C (Kd.int .u8) w A l.length l := by
    intro j v hv
    have hj : j < l0.length := by
      have := (List.getElem?_eq_some_iff.1 hv).1
      simpa [vs] using this
    obtain ⟨A, c, hcell, _, hC⟩ := hsl j l0[j] (List.getElem?_eq_getElem hj)
    have hv' : v = .slice A l0[j].length c := by
      simp only [vs, List.getElem?_map, List.getElem?_range hj, Option.map_some, hcell, Option.getD_some, Option.some.injEq] at hv
      exact hv.symm
    exact ⟨l0[j], List.getElem?_eq_getElem hj, A, c, hv', by rw [hv']; exact hcell, hC⟩
  have hP : Lib.PartsAt w ⟨b, o, none⟩ vs (l0.map Lib.bytesOf) := by
    refine ⟨by simp [vs], fun j v hv => ?_, fun j v l hv hl' => ?_⟩
    · obtain ⟨_, _, _, _, _, hcell, _⟩ := hvs j v hv
      exact hcell
    · obtain ⟨m, hm, A, c, rfl, _, hC⟩ := hvs j v hv
      have hml : Lib.bytesOf m = l := by
        rw [List.getElem?_map, hm] at hl'
        simpa using hl'
      subst hml
      obtain ⟨_, _, hcs⟩ := C_cells hC
      have hmem : m ∈ l0 := List.mem_of_getElem? hm
      refine ⟨A, c, by simp [Lib.bytesOf], fun hA => ?_, fun a ha i x hx => ?_⟩
      · rcases Nat.eq_zero_or_pos m.length with h0 | hp
        · rw [List.eq_nil_of_length_eq_zero h0]; rfl
        · obtain ⟨ad', e, _⟩ := hcs hp
          rw [hA] at e; cases e
      · subst ha
        have hi : i < m.length := by
          have := (List.getElem?_eq_some_iff.1 hx).1
          simpa [Lib.bytesOf] using this
        obtain ⟨ad', e, hcc⟩ := hcs (by omega)
        obtain rfl := Option.some.inj e
        rw [hcc i m[i] (List.getElem?_eq_getElem hi)]
        have hxe : x = UInt8.ofNat m[i].toNat := by
          simp only [Lib.bytesOf, List.getElem?_map, List.getElem?_eq_getElem hi, Option.map_some, Option.some.injEq] at hx
          exact hx.symm
        rw [hxe, byte_back _ (hb m hmem _ (List.getElem_mem hi))]
  have hS : Lib.HoldsBytes w (.slice A1 ([] : List Int).length c1) [] := ⟨A1, c1, rfl, fun _ => rfl, fun a _ i x hx => by simp at hx⟩
  refine (Try.bytes_Join_many b o l0.length c0 vs (l0.map Lib.bytesOf) _ [] w (by simp) h2 hP hc0 hS (by omega) (by rw [lens_bytes, List.length_nil, Nat.zero_mul]; omega)).mono ?_
  rintro e w' ⟨v', rfl, hF, hbel⟩
  refine ⟨v', rfl, ?_, hbel⟩
  rw [join_empty, bytesOf_flatten] at hF
  obtain ⟨g, cap, zs, rfl, hg, hlc, _, hz, hzb, hze, hcell, _⟩ := hF
  have hbf : ∀ x ∈ l0.flatten, 0 ≤ x ∧ x < 256 := fun x hx => by
    obtain ⟨l, hl1, hl2⟩ := List.mem_flatten.1 hx
    exact hb l hl1 x hl2
  have hlen : (Lib.bytesOf l0.flatten).length = l0.flatten.length := by rw [Lib.bytesOf, List.length_map]
  rw [hlen] at hlc hze ⊢
  have hzt : zs.take l0.flatten.length = l0.flatten := bytesOf_inj (fun x hx => hzb x (List.mem_of_mem_take hx)) hbf hze
  refine Kd.V_mk hlc (F_of_cells hg (by omega) (fun j x hx => ?_))
  have hj : j < l0.flatten.length := (List.getElem?_eq_some_iff.1 hx).1
  rw [hcell j (by omega)]
  rw [← hzt, List.getElem?_take, if_pos hj] at hx
  rw [List.getD_eq_getElem?_getD, hx]
  rfl

/-- bytes.Clone. -/
def bytes_Clone.f (l0 : List Int) : Option (List Int) := if l0.length ≤ 140737488355328 then some l0 else none

theorem bytes_Clone.calls (A0 : Option Addr) (c0 : Nat) (l0 : List Int) (r : List Int) (w : World) (hr0 : Kd.C (Kd.int .u8) w A0 l0.length l0) (_hc0 : l0.length ≤ c0) (h : bytes_Clone.f l0 = some r) :
    Calls Try.prog 72 #[.slice A0 l0.length c0] w fun e w' => ∃ v0_ : Value, e = .returned (v0_) ∧ Kd.R (Kd.int .u8) 5 w' w.heap.size (fun _ => True) v0_ r ∧ Below w.heap.size w w' := by
  unfold bytes_Clone.f at h
  split at h
  case isFalse => cases h
  rename_i hb
  obtain rfl := Option.some.inj h
  obtain ⟨_, _, hcs⟩ := C_cells hr0
  cases A0 with
  | none =>
    have h0 : l0.length = 0 := by
      rcases Nat.eq_zero_or_pos l0.length with h0 | hp
      · exact h0
      · obtain ⟨_, e, _⟩ := hcs hp
        cases e
    refine (Try.bytes_Clone_nil l0.length c0 w).mono ?_
    rintro e w' ⟨rfl, rfl⟩
    rw [List.eq_nil_of_length_eq_zero h0]
    exact ⟨_, rfl, Kd.R_nil _ _ _ _ _, Below.refl _ _⟩
  | some ad =>
    refine (Try.bytes_Clone_at ad l0.length c0 l0 w rfl hb (fun i hi => ?_)).mono ?_
    · obtain ⟨ad', e, hcc⟩ := hcs (by omega)
      obtain rfl := Option.some.inj e
      rw [hcc i l0[i] (List.getElem?_eq_getElem hi)]
      simp [List.getD_eq_getElem?_getD, List.getElem?_eq_getElem hi]
    · rintro e w' ⟨v', rfl, ho, _, hbel⟩
      exact ⟨v', rfl, Kd.R_of_own ho (fun _ _ => trivial), hbel⟩
end Go.Proofs.Ytlopmffdebhpfaa.G
