/- Plain laws: what a function with rounds comes to, whatever the rounds beyond some number; bytes; exclusive or on natural numbers; the checksum. -/
import Derived.Test.YtlopmffdebhpfaaG0
import Derived.Test.YtlopmffdebhpfaaG78
import Derived.Test.YtlopmffdebhpfaaG136
import Derived.Laws.BitsLemmas
namespace Go.Proofs.Ytlopmffdebhpfaa.Pure
open Go.RowKit Go.Proofs.Ytlopmffdebhpfaa.G Go.Proofs.YtlopmffdebhpfaaW.PrintWords Go.Proofs.YtlopmffdebhpfaaW.PrintLast Go.Proofs.YtlopmffdebhpfaaW.PrintMore

/-- From some number of rounds on, f comes to v. -/
def Cv {α : Type} (f : Nat → Option α) (v : α) : Prop := ∃ K, ∀ k, K ≤ k → f k = some v
section
variable {α β : Type} {f : Nat → Option α} {v : α} {u : β}
theorem Cv.of {o : Option α} (h : o = some v) : Cv (fun _ => o) v := ⟨0, fun _ _ => h⟩
theorem Cv.bind {g : Nat → α → Option β} (hf : Cv f v) (hg : Cv (fun k => g k v) u) : Cv (fun k => (f k).bind (g k)) u := by
  obtain ⟨a, ha⟩ := hf
  obtain ⟨b, hb⟩ := hg
  exact ⟨max a b, fun k hk => by show (f k).bind (g k) = some u; rw [ha k (by omega), Option.bind_some]; exact hb k (by omega)⟩
theorem Cv.pos {c : Prop} [Decidable c] {g : Nat → Option α} (hc : c) (h : Cv f v) : Cv (fun k => if c then f k else g k) v := by
  obtain ⟨a, ha⟩ := h
  exact ⟨a, fun k hk => by show (if c then f k else g k) = some v; rw [if_pos hc]; exact ha k hk⟩
theorem Cv.neg {c : Prop} [Decidable c] {g : Nat → Option α} (hc : ¬ c) (h : Cv f v) : Cv (fun k => if c then g k else f k) v := by
  obtain ⟨a, ha⟩ := h
  exact ⟨a, fun k hk => by show (if c then g k else f k) = some v; rw [if_neg hc]; exact ha k hk⟩
theorem Cv.succ {g : Nat → Option α} (h : Cv f v) (hs : ∀ k, g (k + 1) = f k) : Cv g v := by
  obtain ⟨a, ha⟩ := h
  refine ⟨a + 1, fun k hk => ?_⟩
  obtain ⟨j, rfl⟩ : ∃ j, k = j + 1 := ⟨k - 1, by omega⟩
  rw [hs]
  exact ha j (by omega)
theorem Cv.from {m : Nat} (h : ∀ k, f (k + m) = some v) : Cv f v := ⟨m, fun k hk => by obtain ⟨j, rfl⟩ : ∃ j, k = j + m := ⟨k - m, by omega⟩; exact h j⟩
theorem Cv.get (h : Cv f v) : ∃ k, f k = some v := ⟨h.choose, h.choose_spec _ (Nat.le_refl _)⟩
theorem Cv.congr {g : Nat → Option α} (h : Cv f v) (e : ∀ k, g k = f k) : Cv g v := by
  have : g = f := funext e
  rw [this]
  exact h
end
/-- Bytes. -/
def By (l : List Int) : Prop := ∀ x ∈ l, 0 ≤ x ∧ x < 256
theorem wf_u8 {x : Int} (h : (Lit.int .u8 x).wf = true) : 0 ≤ x ∧ x < 256 := by
  simp [Lit.wf, IntKind.min, IntKind.max, IntKind.signed, IntKind.bits] at h
  omega
theorem wf_i64 {x : Int} (h : (Lit.int .i64 x).wf = true) : -9223372036854775808 ≤ x ∧ x ≤ 9223372036854775807 := by
  simp [Lit.wf, IntKind.min, IntKind.max, IntKind.signed, IntKind.bits] at h
  omega
theorem By.of_wf {l : List Int} (h : ∀ x ∈ l, (Lit.int .u8 x).wf = true) : By l := fun x hx => wf_u8 (h x hx)
theorem By.append {a b : List Int} (ha : By a) (hb : By b) : By (a ++ b) := fun x hx => by
  rcases List.mem_append.1 hx with h | h
  · exact ha x h
  · exact hb x h
theorem By.take {a : List Int} (h : By a) (n : Nat) : By (a.take n) := fun x hx => h x (List.mem_of_mem_take hx)
theorem By.drop {a : List Int} (h : By a) (n : Nat) : By (a.drop n) := fun x hx => h x (List.mem_of_mem_drop hx)
theorem By.nil : By [] := fun x hx => by cases hx
theorem By.cons {x : Int} {l : List Int} (h0 : 0 ≤ x ∧ x < 256) (h : By l) : By (x :: l) := fun y hy => by
  rcases List.mem_cons.1 hy with h1 | h1
  · rw [h1]; exact h0
  · exact h y h1
theorem By.zeros (n : Nat) : By (List.replicate n 0) := fun x hx => by
  rw [List.eq_of_mem_replicate hx]; decide
theorem By_rd {l : List Int} (h : By l) (i : Int) : 0 ≤ rd l i ∧ rd l i < 256 := by
  unfold rd
  rw [List.getD_eq_getElem?_getD]
  rcases Nat.lt_or_ge i.toNat l.length with h1 | h1
  · rw [List.getElem?_eq_getElem h1]
    exact h _ (List.getElem_mem h1)
  · rw [List.getElem?_eq_none h1]
    decide
theorem rd_mid (pre r : List Int) (c : Int) : rd (pre ++ c :: r) (pre.length : Int) = c := by
  unfold rd
  rw [Int.toNat_natCast, List.getD_eq_getElem?_getD, List.getElem?_append_right (Nat.le_refl _), Nat.sub_self]
  rfl
theorem w64 {n : Int} (h0 : -9223372036854775808 ≤ n) (h1 : n ≤ 9223372036854775807) : wrap64 n = n := by unfold wrap64; omega

/-! ### exclusive or -/
theorem bits_xor_nat (k : IntKind) (j : Nat) (hj : j ≤ k.bits) (hk : ∀ n : Int, 0 ≤ n → n < 2 ^ j → k.wrap n = n) (a b : Nat) (ha : a < 2 ^ j) (hb : b < 2 ^ j) : Go.bits .xor k a b = ((a ^^^ b : Nat) : Int) := by
  have hp : 2 ^ j ≤ 2 ^ k.bits := Nat.pow_le_pow_right (by decide) hj
  have ha' : a % 2 ^ k.bits = a := Nat.mod_eq_of_lt (Nat.lt_of_lt_of_le ha hp)
  have hb' : b % 2 ^ k.bits = b := Nat.mod_eq_of_lt (Nat.lt_of_lt_of_le hb hp)
  simp only [Go.bits, BitVec.ofInt_natCast, BitVec.toNat_xor, BitVec.toNat_ofNat, ha', hb']
  exact hk _ (Int.natCast_nonneg _) (by exact_mod_cast Nat.xor_lt_two_pow ha hb)
theorem xor_u32 (a b : Nat) (ha : a < 2 ^ 32) (hb : b < 2 ^ 32) : Go.bits .xor .u32 a b = ((a ^^^ b : Nat) : Int) :=
  bits_xor_nat .u32 32 (by decide) (fun n h0 h1 => by rw [IntKind.wrap_u32]; omega) a b ha hb
theorem xor_u8 (a b : Nat) (ha : a < 2 ^ 8) (hb : b < 2 ^ 8) : Go.bits .xor .u8 a b = ((a ^^^ b : Nat) : Int) :=
  bits_xor_nat .u8 8 (by decide) (fun n h0 h1 => by rw [IntKind.wrap_u8]; omega) a b ha hb
theorem xor_i64 (a b : Nat) (ha : a < 2 ^ 32) (hb : b < 2 ^ 32) : Go.bits .xor .i64 a b = ((a ^^^ b : Nat) : Int) :=
  bits_xor_nat .i64 32 (by decide) (fun n h0 h1 => by rw [IntKind.wrap_i64]; omega) a b ha hb
theorem and_u32_one (a : Nat) (ha : a < 2 ^ 32) : Go.bits .and .u32 a 1 = ((a % 2 : Nat) : Int) := by
  have h := (bits_nat .u32 32 (by decide) (fun n h0 h1 => by rw [IntKind.wrap_u32]; omega) a 1 ha (by decide)).1
  rw [show ((1 : Nat) : Int) = 1 from rfl] at h
  rw [h, Nat.and_one_is_mod]

/-! ### the checksum -/
def cstep (h : Nat) : Nat := if h % 2 = 1 then (h / 2) ^^^ 3988292384 else h / 2
def cstepN : Nat → Nat → Nat
  | 0, h => h
  | n + 1, h => cstepN n (cstep h)
def cbyte (h c : Nat) : Nat := cstepN 8 (h ^^^ c)
def cfold : Nat → List Int → Nat
  | h, [] => h
  | h, c :: r => cfold (cbyte h c.toNat) r
def crc (l : List Int) : Nat := cfold 4294967295 l ^^^ 4294967295
theorem cstep_lt {h : Nat} (hh : h < 2 ^ 32) : cstep h < 2 ^ 32 := by
  unfold cstep
  split
  · exact Nat.xor_lt_two_pow (by omega) (by decide)
  · omega
theorem cstepN_lt : ∀ (n : Nat) {h : Nat}, h < 2 ^ 32 → cstepN n h < 2 ^ 32
  | 0, _, hh => hh
  | n + 1, _, hh => cstepN_lt n (cstep_lt hh)
theorem cbyte_lt {h c : Nat} (hh : h < 2 ^ 32) (hc : c < 2 ^ 32) : cbyte h c < 2 ^ 32 := cstepN_lt 8 (Nat.xor_lt_two_pow hh hc)
theorem cfold_lt : ∀ (l : List Int) {h : Nat}, By l → h < 2 ^ 32 → cfold h l < 2 ^ 32
  | [], _, _, hh => hh
  | c :: r, _, hb, hh => cfold_lt r (fun x hx => hb x (List.mem_cons_of_mem _ hx)) (cbyte_lt hh (by have := hb c List.mem_cons_self; omega))
theorem crc_lt {l : List Int} (h : By l) : crc l < 2 ^ 32 := Nat.xor_lt_two_pow (cfold_lt l h (by decide)) (by decide)

theorem impl_l1 (k : Nat) (x7 : List Int) (x8 x9 : Int) : ∀ (m : Nat) (h : Nat), h < 2 ^ 32 → ∀ j : Nat, j + m = 8 → impl_Crc32.l1 (k + m + 1) (h : Int) x7 x8 x9 (j : Int) = impl_Crc32.l0 k ((cstepN m h : Nat) : Int) x7 x8 (wrap64 (x9 + 1))
  | 0, h, hh, j, hj => by
    unfold impl_Crc32.l1
    rw [if_neg (by omega)]
    rfl
  | m + 1, h, hh, j, hj => by
    unfold impl_Crc32.l1
    rw [if_pos (by omega), and_u32_one h hh, w64 (by omega) (by omega)]
    have ih := impl_l1 k x7 x8 x9 m (cstep h) (cstep_lt hh) (j + 1) (by omega)
    have ej : ((j : Int) + 1) = ((j + 1 : Nat) : Int) := by omega
    rw [ej]
    by_cases ho : h % 2 = 1
    · rw [if_pos (by omega)]
      have e1 : Go.bits .xor .u32 ((h : Int) / 2) 3988292384 = ((cstep h : Nat) : Int) := by
        rw [show ((h : Int) / 2) = ((h / 2 : Nat) : Int) by omega, show (3988292384 : Int) = ((3988292384 : Nat) : Int) from rfl, xor_u32 _ _ (by omega) (by decide)]
        unfold cstep
        rw [if_pos ho]
      rw [e1]
      exact ih
    · rw [if_neg (by omega)]
      have e1 : ((h : Int) / 2) = ((cstep h : Nat) : Int) := by
        unfold cstep
        rw [if_neg ho]
        omega
      rw [e1]
      exact ih
theorem impl_l0 (k : Nat) : ∀ (r pre : List Int) (h : Nat), By r → (pre ++ r).length ≤ 9223372036854775806 → h < 2 ^ 32 →
    impl_Crc32.l0 (k + 10 * r.length + 1) (h : Int) (pre ++ r) ((pre ++ r).length : Int) (pre.length : Int) = some (((cfold h r ^^^ 4294967295 : Nat)) : Int)
  | [], pre, h, hb, hl, hh => by
    unfold impl_Crc32.l0
    rw [if_neg (by simp)]
    rw [show (4294967295 : Int) = ((4294967295 : Nat) : Int) from rfl, xor_u32 _ _ hh (by decide)]
    have hx : h ^^^ 4294967295 < 2 ^ 32 := Nat.xor_lt_two_pow hh (by decide)
    rw [w64 (by omega) (by omega)]
    rfl
  | c :: r, pre, h, hb, hl, hh => by
    have hc := hb c List.mem_cons_self
    have hlen : (pre ++ c :: r).length = pre.length + r.length + 1 := by simp; omega
    rw [show k + 10 * (c :: r).length + 1 = (k + 10 * r.length + 1) + 8 + 1 + 1 by simp; omega]
    unfold impl_Crc32.l0
    rw [if_pos (by omega), if_pos (by omega), if_pos (by omega), rd_mid]
    have e1 : Go.bits .xor .u32 (h : Int) (c % 4294967296) = ((h ^^^ c.toNat : Nat) : Int) := by
      rw [show c % 4294967296 = ((c.toNat : Nat) : Int) by omega]
      exact xor_u32 _ _ hh (by omega)
    rw [e1]
    have h1 := impl_l1 (k + 10 * r.length + 1) (pre ++ c :: r) ((pre ++ c :: r).length : Int) (pre.length : Int) 8 (h ^^^ c.toNat) (Nat.xor_lt_two_pow hh (by omega)) 0 rfl
    rw [show ((0 : Nat) : Int) = 0 from rfl] at h1
    rw [h1, w64 (by omega) (by omega)]
    have ih := impl_l0 k r (pre ++ [c]) (cbyte h c.toNat) (fun x hx => hb x (List.mem_cons_of_mem _ hx)) (by simpa using hl) (cbyte_lt hh (by omega))
    rw [List.append_assoc, List.singleton_append, show (((pre ++ [c]).length : Nat) : Int) = (pre.length : Int) + 1 by simp] at ih
    exact ih
theorem impl_crc {l : List Int} (hb : By l) (hl : l.length ≤ 9223372036854775806) : Cv (fun k => impl_Crc32.f k l) ((crc l : Nat) : Int) :=
  Cv.from (m := 10 * l.length + 1) (fun k => by
    have h := impl_l0 k l [] 4294967295 hb hl (by decide)
    unfold impl_Crc32.f
    exact h)

theorem spec_l1 (k : Nat) (x0 : List Int) (x4 : Int) : ∀ (m : Nat) (h : Nat), h < 2 ^ 32 → ∀ j : Nat, j + m = 8 → spec_Crc32.l1 (k + m + 1) x0 (h : Int) x4 (j : Int) = spec_Crc32.l0 k x0 ((cstepN m h : Nat) : Int) (wrap64 (x4 + 1))
  | 0, h, hh, j, hj => by
    unfold spec_Crc32.l1
    rw [if_neg (by omega)]
    rfl
  | m + 1, h, hh, j, hj => by
    unfold spec_Crc32.l1
    rw [if_pos (by omega), w64 (n := (j : Int) + 1) (by omega) (by omega)]
    have ih := spec_l1 k x0 x4 m (cstep h) (cstep_lt hh) (j + 1) (by omega)
    have ej : ((j : Int) + 1) = ((j + 1 : Nat) : Int) := by omega
    have e2 : wrap64 (Int.tdiv (h : Int) 2) = ((h / 2 : Nat) : Int) := by
      rw [show Int.tdiv (h : Int) 2 = ((h / 2 : Nat) : Int) from rfl, w64 (by omega) (by omega)]
    have e3 : Int.tmod (h : Int) 2 = ((h % 2 : Nat) : Int) := rfl
    rw [ej, e2, e3]
    by_cases ho : h % 2 = 1
    · rw [if_pos (by omega)]
      have e1 : Go.bits .xor .i64 ((h / 2 : Nat) : Int) 3988292384 = ((cstep h : Nat) : Int) := by
        rw [show (3988292384 : Int) = ((3988292384 : Nat) : Int) from rfl, xor_i64 _ _ (by omega) (by decide)]
        unfold cstep
        rw [if_pos ho]
      rw [e1]
      exact ih
    · rw [if_neg (by omega)]
      have e1 : ((h / 2 : Nat) : Int) = ((cstep h : Nat) : Int) := by
        unfold cstep
        rw [if_neg ho]
      rw [e1]
      exact ih
theorem spec_l0 (k : Nat) : ∀ (r pre : List Int) (h : Nat), By r → (pre ++ r).length ≤ 9223372036854775806 → h < 2 ^ 32 →
    spec_Crc32.l0 (k + 10 * r.length + 1) (pre ++ r) (h : Int) (pre.length : Int) = some (((cfold h r ^^^ 4294967295 : Nat)) : Int)
  | [], pre, h, hb, hl, hh => by
    unfold spec_Crc32.l0
    rw [if_neg (by simp)]
    rw [show (4294967295 : Int) = ((4294967295 : Nat) : Int) from rfl, xor_i64 _ _ hh (by decide)]
    rfl
  | c :: r, pre, h, hb, hl, hh => by
    have hc := hb c List.mem_cons_self
    have hlen : (pre ++ c :: r).length = pre.length + r.length + 1 := by simp; omega
    rw [show k + 10 * (c :: r).length + 1 = (k + 10 * r.length + 1) + 8 + 1 + 1 by simp; omega]
    unfold spec_Crc32.l0
    rw [if_pos (by omega), if_pos (by omega), rd_mid]
    have e1 : Go.bits .xor .i64 (h : Int) (wrap64 c) = ((h ^^^ c.toNat : Nat) : Int) := by
      rw [w64 (by omega) (by omega)]
      obtain ⟨n, rfl⟩ := Int.eq_ofNat_of_zero_le hc.1
      exact xor_i64 _ _ hh (by omega)
    rw [e1]
    have h1 := spec_l1 (k + 10 * r.length + 1) (pre ++ c :: r) (pre.length : Int) 8 (h ^^^ c.toNat) (Nat.xor_lt_two_pow hh (by omega)) 0 rfl
    rw [show ((0 : Nat) : Int) = 0 from rfl] at h1
    rw [h1, w64 (by omega) (by omega)]
    have ih := spec_l0 k r (pre ++ [c]) (cbyte h c.toNat) (fun x hx => hb x (List.mem_cons_of_mem _ hx)) (by simpa using hl) (cbyte_lt hh (by omega))
    rw [List.append_assoc, List.singleton_append, show (((pre ++ [c]).length : Nat) : Int) = (pre.length : Int) + 1 by simp] at ih
    exact ih
theorem spec_crc {l : List Int} (hb : By l) (hl : l.length ≤ 9223372036854775806) : Cv (fun k => spec_Crc32.f k l) ((crc l : Nat) : Int) :=
  Cv.from (m := 10 * l.length + 1) (fun k => by
    have h := spec_l0 k l [] 4294967295 hb hl (by decide)
    unfold spec_Crc32.f
    exact h)
end Go.Proofs.Ytlopmffdebhpfaa.Pure
