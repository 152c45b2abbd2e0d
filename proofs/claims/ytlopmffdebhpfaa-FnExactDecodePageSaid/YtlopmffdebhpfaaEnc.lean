/- Plain laws: numbers in bytes, the least one first; a page's bytes as the document writes them and as the code does. -/
import Derived.Test.YtlopmffdebhpfaaCv
import Derived.Test.YtlopmffdebhpfaaG77
import Derived.Test.YtlopmffdebhpfaaG67
import Derived.Test.YtlopmffdebhpfaaG68
import Derived.Test.YtlopmffdebhpfaaG69
import Derived.Test.YtlopmffdebhpfaaG14
import Derived.Test.YtlopmffdebhpfaaG21
import Derived.Test.YtlopmffdebhpfaaPage
namespace Go.Proofs.Ytlopmffdebhpfaa.Pure
open Go.RowKit Go.Proofs.Ytlopmffdebhpfaa.G Go.Proofs.YtlopmffdebhpfaaW.PrintWords Go.Proofs.YtlopmffdebhpfaaW.PrintLast Go.Proofs.YtlopmffdebhpfaaW.PrintMore

/-- A number in n bytes. -/
def leN : Nat → Nat → List Int
  | 0, _ => []
  | n + 1, v => ((v % 256 : Nat) : Int) :: leN n (v / 256)
theorem leN_length : ∀ (n v : Nat), (leN n v).length = n
  | 0, _ => rfl
  | n + 1, v => by simp [leN, leN_length n]
theorem leN_by : ∀ (n v : Nat), By (leN n v)
  | 0, _ => By.nil
  | n + 1, v => By.cons ⟨by omega, by omega⟩ (leN_by n _)

theorem spec_num_l0 (k n : Nat) (hn : n < 1000) : ∀ (m v i : Nat) (acc : List Int), i + m = n → v < 2 ^ 63 → acc.length + m < 1000 → spec_l2Num.l0 (k + m + 1) (v : Int) (n : Int) acc (i : Int) = some (acc ++ leN m v)
  | 0, v, i, acc, hi, hv, hl => by
    unfold spec_l2Num.l0
    rw [if_neg (by omega)]
    simp [leN]
  | m + 1, v, i, acc, hi, hv, hl => by
    unfold spec_l2Num.l0
    rw [if_pos (by omega), if_pos (by omega), w64 (n := (i : Int) + 1) (by omega) (by omega)]
    rw [show Int.tdiv (v : Int) 256 = ((v / 256 : Nat) : Int) from rfl, w64 (by omega) (by omega), show Int.tmod (v : Int) 256 = ((v % 256 : Nat) : Int) from rfl]
    rw [show ((v % 256 : Nat) : Int) % 256 = ((v % 256 : Nat) : Int) by omega]
    have ih := spec_num_l0 k n hn m (v / 256) (i + 1) (acc ++ [((v % 256 : Nat) : Int)]) (by omega) (by omega) (by simp; omega)
    rw [show (((i + 1 : Nat)) : Int) = (i : Int) + 1 by omega] at ih
    rw [show k + (m + 1) = k + m + 1 by omega, ih]
    simp [leN]
theorem spec_num {v n : Nat} (hv : v < 2 ^ 63) (hn : n < 999) : Cv (fun k => spec_l2Num.f k (v : Int) (n : Int)) (leN n v) :=
  Cv.from (m := n + 1) (fun k => by
    have h := spec_num_l0 k n (by omega) n v 0 [] (by omega) hv (by simp; omega)
    unfold spec_l2Num.f
    exact h)

theorem impl_low_l0 (k v n : Nat) (hn : n ≤ 8) (hv : v < 2 ^ 63) : ∀ (m i : Nat) (pre : List Int), i + m = n → pre.length = i → impl_low.l0 (k + m + 1) (v : Int) (pre ++ List.replicate m 0) (n : Int) (i : Int) = some (pre ++ leN m (v / 2 ^ (8 * i)))
  | 0, i, pre, hi, hp => by
    unfold impl_low.l0
    rw [if_neg (by omega)]
    simp [leN]
  | m + 1, i, pre, hi, hp => by
    unfold impl_low.l0
    have hlen : (pre ++ List.replicate (m + 1) (0 : Int)).length = n := by simp; omega
    rw [w64 (n := 8 * (i : Int)) (by omega) (by omega)]
    rw [if_pos (by omega), if_pos (by omega), if_pos (by omega), if_pos (by omega), w64 (n := (i : Int) + 1) (by omega) (by omega)]
    have e1 : shr .i64 (v : Int) (8 * (i : Int)) % 256 = ((v / 2 ^ (8 * i) % 256 : Nat) : Int) := by
      unfold shr
      rw [show (8 * (i : Int)).toNat = 8 * i by omega, show min (8 * i) IntKind.i64.bits = 8 * i from Nat.min_eq_left (by show 8 * i ≤ 64; omega)]
      rw [show ((2 : Int) ^ (8 * i)) = ((2 ^ (8 * i) : Nat) : Int) by push_cast; rfl]
      rfl
    rw [e1]
    have e2 : (pre ++ List.replicate (m + 1) (0 : Int)).set ((i : Int)).toNat ((v / 2 ^ (8 * i) % 256 : Nat) : Int) = (pre ++ [((v / 2 ^ (8 * i) % 256 : Nat) : Int)]) ++ List.replicate m 0 := by
      rw [Int.toNat_natCast, List.set_append_right _ _ (by omega), show i - pre.length = 0 by omega, List.replicate_succ, List.set_cons_zero, List.append_assoc, List.singleton_append]
    rw [e2]
    have ih := impl_low_l0 k v n hn hv m (i + 1) (pre ++ [((v / 2 ^ (8 * i) % 256 : Nat) : Int)]) (by omega) (by simp; omega)
    rw [show (((i + 1 : Nat)) : Int) = (i : Int) + 1 by omega] at ih
    rw [show k + (m + 1) = k + m + 1 by omega, ih]
    simp only [leN, List.append_assoc, List.singleton_append]
    rw [show 8 * (i + 1) = 8 * i + 8 by omega, Nat.pow_add, ← Nat.div_div_eq_div_mul]
theorem impl_num {v n : Nat} (hv : v < 2 ^ 63) (hn : n ≤ 8) : Cv (fun k => impl_low.f k (v : Int) (n : Int)) (leN n v) :=
  Cv.from (m := n + 1) (fun k => by
    have h := impl_low_l0 k v n hn hv n 0 [] (by omega) rfl
    unfold impl_low.f
    rw [if_pos (by omega), if_pos (by omega), Option.bind_some, Int.toNat_natCast, List.length_replicate, ← Nat.add_assoc]
    simpa using h)

/-- The page's bytes behind the checksum; the page. -/
def restOf (id kind : Nat) (body : List Int) : List Int := leN 4 id ++ ([((kind % 256 : Nat) : Int), 0] ++ (leN 2 body.length ++ ([0, 0, 0, 0] ++ (body ++ List.replicate (240 - body.length) 0))))
def pageOf (id kind : Nat) (body : List Int) : List Int := leN 4 (crc (restOf id kind body)) ++ restOf id kind body
theorem zeros4 : leN 4 0 = [0, 0, 0, 0] := rfl
theorem restOf_length (id kind : Nat) {body : List Int} (h : body.length ≤ 240) : (restOf id kind body).length = 252 := by
  simp [restOf, leN_length]; omega
theorem restOf_by (id kind : Nat) {body : List Int} (h : By body) : By (restOf id kind body) := by
  refine (leN_by _ _).append (By.append (By.cons ⟨by omega, by omega⟩ (By.cons (by decide) By.nil)) ((leN_by _ _).append (By.append (By.zeros 4) (By.append h (By.zeros _)))))
theorem pageOf_length (id kind : Nat) {body : List Int} (h : body.length ≤ 240) : (pageOf id kind body).length = 256 := by
  simp [pageOf, leN_length, restOf_length id kind h]
theorem pageOf_by (id kind : Nat) {body : List Int} (h : By body) : By (pageOf id kind body) := (leN_by _ _).append (restOf_by _ _ h)

theorem head_bytes {id kind size : Nat} (hi : id < 2 ^ 32) (hs : size < 2 ^ 16) : Cv (fun k => impl_head_bytes.f k (id : Int) (kind : Int) (size : Int)) (leN 4 id ++ ([((kind % 256 : Nat) : Int), 0] ++ (leN 2 size ++ [0, 0, 0, 0]))) := by
  unfold impl_head_bytes.f
  refine Cv.bind (impl_num (n := 4) (by omega) (by omega)) ?_
  refine Cv.bind (impl_num (n := 2) (by omega) (by omega)) ?_
  refine Cv.bind (impl_num (v := 0) (n := 4) (by omega) (by omega)) ?_
  refine Cv.of ?_
  unfold bytes_Join.f
  rw [if_pos]
  · simp only [Option.bind_some, Option.some.injEq, zeros4]
    simp
  · refine ⟨by simp, rfl, by simp, by simp [leN_length], ?_⟩
    have hall : ∀ l ∈ [leN 4 id, [(kind : Int) % 256, 0], leN 2 size, leN 4 0], By l := by
      intro l hl
      simp only [List.mem_cons, List.not_mem_nil, or_false] at hl
      rcases hl with rfl | rfl | rfl | rfl
      · exact leN_by _ _
      · exact By.cons ⟨by omega, by omega⟩ (By.cons (by decide) By.nil)
      · exact leN_by _ _
      · exact leN_by _ _
    exact hall
theorem spl_mid (a b c y : List Int) (o : Nat) (ho : a.length = o) (hy : y.length = b.length) : spl (a ++ (b ++ c)) o y = a ++ (y ++ c) := by
  subst ho
  unfold spl
  rw [List.take_left', hy, List.append_assoc]
  · congr 2
    rw [← List.append_assoc, ← List.length_append, List.drop_left']
    rfl
  · rfl

theorem page_bytes {id kind : Nat} {body : List Int} (hi : id < 2 ^ 32) (hb : By body) (hl : body.length ≤ 240) : Cv (fun k => impl_page_bytes.f k (id : Int) (kind : Int) (body.length : Int) body) (pageOf id kind body) := by
  unfold impl_page_bytes.f
  refine Cv.bind (head_bytes hi (by omega)) ?_
  refine Cv.pos (by simp [leN_length]) (Cv.pos hl ?_)
  have e1 : pageRest (leN 4 id ++ ([((kind % 256 : Nat) : Int), 0] ++ (leN 2 body.length ++ [0, 0, 0, 0]))) body = [0, 0, 0, 0] ++ restOf id kind body := by
    have hz : List.replicate 256 (0 : Int) = List.replicate 4 0 ++ (List.replicate 12 0 ++ (List.replicate body.length 0 ++ List.replicate (240 - body.length) 0)) := by
      rw [List.replicate_append_replicate, List.replicate_append_replicate, List.replicate_append_replicate]
      congr 1
      omega
    unfold pageRest
    rw [hz, spl_mid _ _ _ _ 4 (by simp) (by simp [leN_length]), ← List.append_assoc, spl_mid _ _ _ _ 16 (by simp [leN_length]) (by simp)]
    simp [restOf, List.append_assoc, List.replicate_succ]
  rw [e1]
  have e2 : ([0, 0, 0, 0] ++ restOf id kind body).drop 4 = restOf id kind body := rfl
  rw [e2]
  refine Cv.bind (impl_crc (restOf_by _ _ hb) (by rw [restOf_length _ _ hl]; decide)) ?_
  refine Cv.bind (impl_num (n := 4) (by have := crc_lt (restOf_by id kind hb); omega) (by omega)) ?_
  refine Cv.pos (by simp [leN_length]) (Cv.of ?_)
  unfold spl pageOf
  rw [leN_length]
  simp

/-! ### the document's page -/
def okPage (id kind : Int) (n : Nat) : Prop := 0 ≤ id ∧ id ≤ 1023 ∧ 1 ≤ kind ∧ kind ≤ 4 ∧ n ≤ 240
instance (id kind : Int) (n : Nat) : Decidable (okPage id kind n) := by unfold okPage; exact inferInstance
theorem spec_pad (k : Nat) (g : List Int → Option (List Int × Bool)) (hg : True) : ∀ (m : Nat) (x : List Int), x.length + m = 252 → spec_EncodePage.l0 (k + m) x = spec_EncodePage.l0 k (x ++ List.replicate m 0)
  | 0, x, h => by simp
  | m + 1, x, h => by
    have ih := spec_pad k g hg m (x ++ [0]) (by simp; omega)
    rw [show k + (m + 1) = (k + m) + 1 by omega]
    conv => lhs; unfold spec_EncodePage.l0
    rw [if_pos (by omega), if_pos (by omega), ih, List.append_assoc]
    rfl
theorem spec_tail {x : List Int} (hb : By x) (hx : x.length ≤ 252) : Cv (fun k => spec_EncodePage.l0 k x) (leN 4 (crc (x ++ List.replicate (252 - x.length) 0)) ++ (x ++ List.replicate (252 - x.length) 0), true) := by
  have hb2 : By (x ++ List.replicate (252 - x.length) 0) := hb.append (By.zeros _)
  have hlen : (x ++ List.replicate (252 - x.length) (0 : Int)).length = 252 := by simp; omega
  have h1 : Cv (fun k => spec_EncodePage.l0 k (x ++ List.replicate (252 - x.length) 0)) (leN 4 (crc (x ++ List.replicate (252 - x.length) 0)) ++ (x ++ List.replicate (252 - x.length) 0), true) := by
    refine Cv.succ (f := fun k => (spec_Crc32.f k (x ++ List.replicate (252 - x.length) 0)).bind fun t138 => ((spec_l2Num.f k t138 4).bind fun t139 => (if t139.length + (x ++ List.replicate (252 - x.length) (0 : Int)).length < 140737488355328 then (some ((t139 ++ (x ++ List.replicate (252 - x.length) 0)), true)) else (none)))) ?_ (fun k => ?_)
    · refine Cv.bind (spec_crc hb2 (by omega)) (Cv.bind (spec_num (n := 4) (by have := crc_lt hb2; omega) (by omega)) ?_)
      exact Cv.pos (by rw [leN_length, hlen]; decide) (Cv.of rfl)
    · conv => lhs; unfold spec_EncodePage.l0
      rw [if_neg (by omega)]
  obtain ⟨K, hK⟩ := h1
  refine ⟨K + (252 - x.length), fun k hk => ?_⟩
  obtain ⟨j, rfl⟩ : ∃ j, k = j + (252 - x.length) := ⟨k - (252 - x.length), by omega⟩
  show spec_EncodePage.l0 (j + (252 - x.length)) x = _
  rw [spec_pad j (fun _ => none) trivial (252 - x.length) x (by omega)]
  exact hK j (by omega)
theorem spec_j0_true (x0 x1 : Int) (x2 : List Int) : Cv (fun k => spec_EncodePage.j0 k x0 x1 x2 true) ([], false) :=
  Cv.from (m := 1) (fun k => by unfold spec_EncodePage.j0; dsimp only; rw [if_pos rfl])
theorem spec_j0_false {id kind : Nat} {body : List Int} (hi : id ≤ 1023) (hb : By body) (hl : body.length ≤ 240) : Cv (fun k => spec_EncodePage.j0 k (id : Int) (kind : Int) body false) (pageOf id kind body, true) := by
  refine Cv.succ (f := fun k => (spec_l2Num.f k (id : Int) 4).bind fun t111 => ((some (([((kind : Int)) % 256, 0] : List Int) : List Int)).bind fun y114 => (if t111.length + y114.length < 140737488355328 then ((some (t111 ++ y114 : List Int)).bind fun y117 => ((spec_l2Num.f k (body.length : Int) 2).bind fun t120 => (if y117.length + t120.length < 140737488355328 then ((some (y117 ++ t120 : List Int)).bind fun y123 => ((some (([0, 0, 0, 0] : List Int) : List Int)).bind fun y126 => (if y123.length + y126.length < 140737488355328 then ((some (y123 ++ y126 : List Int)).bind fun y129 => (if y129.length + body.length < 140737488355328 then (spec_EncodePage.l0 k (y129 ++ body)) else (none))) else (none)))) else (none)))) else (none)))) ?_ (fun k => ?_)
  · refine Cv.bind (spec_num (n := 4) (by omega) (by omega)) ?_
    refine Cv.bind (Cv.of rfl) ?_
    refine Cv.pos (by simp [leN_length]) ?_
    refine Cv.bind (Cv.of rfl) ?_
    refine Cv.bind (spec_num (n := 2) (by omega) (by omega)) ?_
    refine Cv.pos (by simp [leN_length]) ?_
    refine Cv.bind (Cv.of rfl) ?_
    refine Cv.bind (Cv.of rfl) ?_
    refine Cv.pos (by simp [leN_length]) ?_
    refine Cv.bind (Cv.of rfl) ?_
    refine Cv.pos (by simp [leN_length]; omega) ?_
    have hx : By (leN 4 id ++ [((kind : Int)) % 256, 0] ++ leN 2 body.length ++ [0, 0, 0, 0] ++ body) :=
      ((((leN_by _ _).append (By.cons ⟨by omega, by omega⟩ (By.cons (by decide) By.nil))).append (leN_by _ _)).append (By.zeros 4)).append hb
    have hlen : (leN 4 id ++ [((kind : Int)) % 256, 0] ++ leN 2 body.length ++ [0, 0, 0, 0] ++ body).length = 12 + body.length := by simp [leN_length]; omega
    have h := spec_tail hx (by omega)
    have e : (leN 4 id ++ [((kind : Int)) % 256, 0] ++ leN 2 body.length ++ [0, 0, 0, 0] ++ body) ++ List.replicate (252 - (leN 4 id ++ [((kind : Int)) % 256, 0] ++ leN 2 body.length ++ [0, 0, 0, 0] ++ body).length) 0 = restOf id kind body := by
      rw [hlen, show 252 - (12 + body.length) = 240 - body.length by omega]
      simp [restOf, List.append_assoc]
    rw [e] at h
    exact h
  · conv => lhs; unfold spec_EncodePage.j0
    dsimp only
    rw [if_neg (by decide)]
/-- What EncodePage gives. -/
def encV (id kind : Int) (body : List Int) : List Int × Bool := if okPage id kind body.length then (pageOf id.toNat kind.toNat body, true) else ([], false)
theorem spec_enc {id kind : Int} {body : List Int} (hb : By body) : Cv (fun k => spec_EncodePage.f k id kind body) (encV id kind body) := by
  unfold spec_EncodePage.f encV
  by_cases h1 : id < 0
  · rw [if_neg (by unfold okPage; omega)]
    exact Cv.pos h1 (spec_j0_true _ _ _)
  refine Cv.neg h1 ?_
  by_cases h2 : id > 1023
  · rw [if_neg (by unfold okPage; omega)]
    exact Cv.pos h2 (spec_j0_true _ _ _)
  refine Cv.neg h2 ?_
  by_cases h3 : kind < 1
  · rw [if_neg (by unfold okPage; omega)]
    exact Cv.pos h3 (spec_j0_true _ _ _)
  refine Cv.neg h3 ?_
  by_cases h4 : kind > 4
  · rw [if_neg (by unfold okPage; omega)]
    exact Cv.pos h4 (spec_j0_true _ _ _)
  refine Cv.neg h4 ?_
  by_cases h5 : (body.length : Int) > 240
  · rw [if_neg (by unfold okPage; omega), decide_eq_true h5]
    exact spec_j0_true _ _ _
  · rw [if_pos (by unfold okPage; omega), decide_eq_false h5]
    obtain ⟨i, rfl⟩ := Int.eq_ofNat_of_zero_le (show 0 ≤ id by omega)
    obtain ⟨q, rfl⟩ := Int.eq_ofNat_of_zero_le (show 0 ≤ kind by omega)
    exact spec_j0_false (by omega) hb (by omega)
theorem valid_eq (id kind size : Int) : impl_head_valid.f id kind size = some (decide (0 ≤ id ∧ id ≤ 1023 ∧ 1 ≤ kind ∧ kind ≤ 4 ∧ size ≤ 240)) := by
  unfold impl_head_valid.f
  split
  · split
    · split
      · split
        · simp_all
        · rw [decide_eq_false (by omega)]
      · rw [decide_eq_false (by omega)]
    · rw [decide_eq_false (by omega)]
  · rw [decide_eq_false (by omega)]
theorem impl_enc {id kind : Int} {body : List Int} (hb : By body) : Cv (fun k => impl_EncodePage.f k id kind body) (encV id kind body) := by
  unfold impl_EncodePage.f encV
  refine Cv.bind (Cv.of (valid_eq _ _ _)) ?_
  by_cases h : okPage id kind body.length
  · rw [if_pos h]
    unfold okPage at h
    refine Cv.pos (decide_eq_true (by omega)) ?_
    obtain ⟨i, rfl⟩ := Int.eq_ofNat_of_zero_le (show 0 ≤ id by omega)
    obtain ⟨q, rfl⟩ := Int.eq_ofNat_of_zero_le (show 0 ≤ kind by omega)
    exact Cv.bind (page_bytes (by omega) hb (by omega)) (Cv.of rfl)
  · rw [if_neg h]
    unfold okPage at h
    exact Cv.neg (by rw [decide_eq_true_eq]; omega) (Cv.of rfl)
end Go.Proofs.Ytlopmffdebhpfaa.Pure
