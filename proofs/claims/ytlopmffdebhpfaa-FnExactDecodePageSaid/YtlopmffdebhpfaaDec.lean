/- Plain laws: what a page's bytes are read as, by the document and by the code; copies, comparisons and marks of the laws. -/
import Derived.Test.YtlopmffdebhpfaaEnc
import Derived.Test.YtlopmffdebhpfaaG15
import Derived.Test.YtlopmffdebhpfaaG17
import Derived.Test.YtlopmffdebhpfaaG18
import Derived.Test.YtlopmffdebhpfaaG19
namespace Go.Proofs.Ytlopmffdebhpfaa.Pure
open Go.RowKit Go.Proofs.Ytlopmffdebhpfaa.G Go.Proofs.YtlopmffdebhpfaaW.PrintWords Go.Proofs.YtlopmffdebhpfaaW.PrintLast Go.Proofs.YtlopmffdebhpfaaW.PrintMore

theorem low2 {a b : Int} (ha : 0 ≤ a ∧ a < 256) (hb : 0 ≤ b ∧ b < 256) : Cv (fun k => spec_l2Low.f k [a, b]) (a + 256 * b) :=
  Cv.from (m := 3) (fun k => by
    unfold spec_l2Low.f
    rw [show wrap64 (((([a, b] : List Int).length : Nat) : Int) - 1) = 1 from by unfold wrap64; simp]
    rw [show k + 3 = k + 2 + 1 from rfl]
    unfold spec_l2Low.l0
    rw [if_pos (by decide), if_pos (by decide), if_pos (by simp), show rd [a, b] 1 = b from rfl, show wrap64 (1 - 1) = 0 from by unfold wrap64; omega]
    unfold spec_l2Low.l0
    rw [if_pos (by decide), if_pos (by decide), if_pos (by simp), show rd [a, b] 0 = a from rfl, show wrap64 (0 - 1) = -1 from by unfold wrap64; omega]
    unfold spec_l2Low.l0
    rw [if_neg (by decide)]
    rw [w64 (n := b) (by omega) (by omega), w64 (n := a) (by omega) (by omega), show wrap64 (0 * 256) = 0 from by unfold wrap64; omega, w64 (n := 0 + b) (by omega) (by omega), w64 (n := (0 + b) * 256) (by omega) (by omega), w64 (by omega) (by omega)]
    congr 1
    omega)
theorem or_i64 (a b : Nat) (ha : a < 2 ^ 32) (hb : b < 2 ^ 32) : Go.bits .or .i64 a b = ((a ||| b : Nat) : Int) :=
  (bits_nat .i64 32 (by decide) (fun n h0 h1 => by rw [IntKind.wrap_i64]; omega) a b ha hb).2
theorem num2 {a b : Int} (ha : 0 ≤ a ∧ a < 256) (hb : 0 ≤ b ∧ b < 256) : Cv (fun k => impl_numberAt.f k [a, b]) (a + 256 * b) :=
  Cv.from (m := 3) (fun k => by
    obtain ⟨x, rfl⟩ := Int.eq_ofNat_of_zero_le ha.1
    obtain ⟨y, rfl⟩ := Int.eq_ofNat_of_zero_le hb.1
    have hx : x < 256 := by omega
    have hy : y < 256 := by omega
    unfold impl_numberAt.f
    rw [show k + 3 = k + 2 + 1 from rfl]
    unfold impl_numberAt.l0
    rw [if_pos (by simp), if_pos (by decide), if_pos (by simp), if_pos (by unfold wrap64; omega), show rd [(x : Int), (y : Int)] 0 = (x : Int) from rfl, show wrap64 (0 + 1) = 1 from by unfold wrap64; omega, show wrap64 (8 * 0) = 0 from by unfold wrap64; omega]
    have e1 : shl .i64 (wrap64 (x : Int)) 0 = (x : Int) := by
      unfold shl
      rw [w64 (by omega) (by omega), IntKind.wrap_i64]
      simp only [Int.toNat_zero, Nat.zero_min, Int.pow_zero]
      omega
    have e2 : Go.bits .or .i64 0 (x : Int) = (x : Int) := by
      have := or_i64 0 x (by decide) (by omega)
      simpa using this
    rw [e1, e2]
    unfold impl_numberAt.l0
    rw [if_pos (by simp), if_pos (by decide), if_pos (by simp), if_pos (by unfold wrap64; omega), show rd [(x : Int), (y : Int)] 1 = (y : Int) from rfl, show wrap64 (1 + 1) = 2 from by unfold wrap64; omega, show wrap64 (8 * 1) = 8 from by unfold wrap64; omega]
    have e3 : shl .i64 (wrap64 (y : Int)) 8 = ((y * 256 : Nat) : Int) := by
      unfold shl
      rw [w64 (by omega) (by omega), IntKind.wrap_i64, show min ((8 : Int)).toNat IntKind.i64.bits = 8 from rfl, show ((2 : Int) ^ 8) = 256 from rfl]
      omega
    have e4 : Go.bits .or .i64 (x : Int) ((y * 256 : Nat) : Int) = ((x + 256 * y : Nat) : Int) := by
      rw [or_i64 x (y * 256) (by omega) (by omega), Nat.or_comm]
      have h := Nat.two_pow_add_eq_or_of_lt (i := 8) (b := x) (by omega) y
      rw [show 2 ^ 8 * y = y * 256 by omega] at h
      rw [← h]
      congr 1
      omega
    rw [e3, e4]
    unfold impl_numberAt.l0
    rw [if_neg (by simp)]
    congr 1
    )

theorem same_l0 (k : Nat) : ∀ (a b pa pb : List Int), pa.length = pb.length → a.length = b.length → (pa ++ a).length ≤ 9223372036854775806 →
    spec_l2Same.l0 (k + a.length + 1) (pa ++ a) (pb ++ b) (pa.length : Int) = some (decide (a = b))
  | [], [], pa, pb, hp, hl, hm => by
    unfold spec_l2Same.l0
    rw [if_neg (by simp)]
    simp
  | [], y :: b, pa, pb, hp, hl, hm => by simp at hl
  | x :: a, [], pa, pb, hp, hl, hm => by simp at hl
  | x :: a, y :: b, pa, pb, hp, hl, hm => by
    have h1 : (pa ++ x :: a).length = pa.length + a.length + 1 := by simp; omega
    have h2 : (pb ++ y :: b).length = pa.length + b.length + 1 := by simp; omega
    rw [show k + (x :: a).length + 1 = (k + a.length + 1) + 1 by simp; omega]
    conv => lhs; unfold spec_l2Same.l0
    rw [if_pos (by omega), if_pos (by omega), if_pos (by omega), rd_mid]
    have e : rd (pb ++ y :: b) (pa.length : Int) = y := by rw [hp]; exact rd_mid _ _ _
    rw [e]
    by_cases hxy : x = y
    · rw [if_pos hxy, w64 (by omega) (by omega)]
      have ih := same_l0 k a b (pa ++ [x]) (pb ++ [y]) (by simp [hp]) (by simpa using hl) (by simpa using hm)
      rw [List.append_assoc, List.append_assoc, List.singleton_append, List.singleton_append, show (((pa ++ [x]).length : Nat) : Int) = (pa.length : Int) + 1 by simp] at ih
      rw [ih]
      subst hxy
      simp
    · rw [if_neg hxy, decide_eq_false (by simp [hxy])]
theorem same {a b : List Int} (hm : a.length ≤ 9223372036854775806) : Cv (fun k => spec_l2Same.f k a b) (decide (a = b)) := by
  unfold spec_l2Same.f
  by_cases h : (a.length : Int) = (b.length : Int)
  · exact Cv.pos h (Cv.from (m := a.length + 1) (fun k => same_l0 k a b [] [] rfl (by omega) (by simpa using hm)))
  · refine Cv.neg h (Cv.of ?_)
    rw [decide_eq_false (fun e => h (by rw [e]))]
theorem eq_l0 (k : Nat) : ∀ (a b pa pb : List Int), pa.length = pb.length → a.length = b.length → (pa ++ a).length ≤ 9223372036854775806 →
    laws_eqByteS.l0 (k + a.length + 1) (pa ++ a) (pb ++ b) (pa.length : Int) = some (decide (a = b))
  | [], [], pa, pb, hp, hl, hm => by
    unfold laws_eqByteS.l0
    rw [if_neg (by simp)]
    simp
  | [], y :: b, pa, pb, hp, hl, hm => by simp at hl
  | x :: a, [], pa, pb, hp, hl, hm => by simp at hl
  | x :: a, y :: b, pa, pb, hp, hl, hm => by
    have h1 : (pa ++ x :: a).length = pa.length + a.length + 1 := by simp; omega
    have h2 : (pb ++ y :: b).length = pa.length + b.length + 1 := by simp; omega
    rw [show k + (x :: a).length + 1 = (k + a.length + 1) + 1 by simp; omega]
    conv => lhs; unfold laws_eqByteS.l0
    rw [if_pos (by omega), if_pos (by omega), if_pos (by omega), rd_mid]
    have e : rd (pb ++ y :: b) (pa.length : Int) = y := by rw [hp]; exact rd_mid _ _ _
    rw [e]
    by_cases hxy : x = y
    · rw [if_pos hxy, w64 (by omega) (by omega)]
      have ih := eq_l0 k a b (pa ++ [x]) (pb ++ [y]) (by simp [hp]) (by simpa using hl) (by simpa using hm)
      rw [List.append_assoc, List.append_assoc, List.singleton_append, List.singleton_append, show (((pa ++ [x]).length : Nat) : Int) = (pa.length : Int) + 1 by simp] at ih
      rw [ih]
      subst hxy
      simp
    · rw [if_neg hxy, decide_eq_false (by simp [hxy])]
theorem eqB {a b : List Int} (hm : a.length ≤ 9223372036854775806) : Cv (fun k => laws_eqByteS.f k a b) (decide (a = b)) := by
  unfold laws_eqByteS.f
  by_cases h : (a.length : Int) = (b.length : Int)
  · exact Cv.pos h (Cv.from (m := a.length + 1) (fun k => eq_l0 k a b [] [] rfl (by omega) (by simpa using hm)))
  · refine Cv.neg h (Cv.of ?_)
    rw [decide_eq_false (fun e => h (by rw [e]))]
theorem toB_l0 (k : Nat) : ∀ (r pre : List Int), (pre ++ r).length ≤ 9223372036854775806 →
    laws_toByteS.l0 (k + r.length + 1) (pre ++ r) (pre ++ List.replicate r.length 0) (pre.length : Int) = some (pre ++ r)
  | [], pre, hm => by
    unfold laws_toByteS.l0
    rw [if_neg (by simp)]
    simp
  | x :: r, pre, hm => by
    have h1 : (pre ++ x :: r).length = pre.length + r.length + 1 := by simp; omega
    have h2 : (pre ++ List.replicate (x :: r).length (0 : Int)).length = pre.length + r.length + 1 := by simp; omega
    rw [show k + (x :: r).length + 1 = (k + r.length + 1) + 1 by simp; omega]
    conv => lhs; unfold laws_toByteS.l0
    rw [if_pos (by omega), if_pos (by omega), if_pos (by omega), rd_mid, w64 (by omega) (by omega)]
    have e : (pre ++ List.replicate (x :: r).length (0 : Int)).set ((pre.length : Int)).toNat x = (pre ++ [x]) ++ List.replicate r.length 0 := by
      rw [Int.toNat_natCast, List.set_append_right _ _ (Nat.le_refl _), Nat.sub_self, List.length_cons, List.replicate_succ, List.set_cons_zero, List.append_assoc, List.singleton_append]
    rw [e]
    have ih := toB_l0 k r (pre ++ [x]) (by simpa using hm)
    rw [List.append_assoc, List.singleton_append, show (((pre ++ [x]).length : Nat) : Int) = (pre.length : Int) + 1 by simp] at ih
    rw [ih]
theorem toB {l : List Int} (hm : l.length ≤ 281474976710656) : Cv (fun k => laws_toByteS.f k l) l := by
  unfold laws_toByteS.f
  refine Cv.pos (by omega) (Cv.pos (by omega) (Cv.from (m := l.length + 1) (fun k => ?_)))
  have h := toB_l0 k l [] (by simp; omega)
  simpa [← Nat.add_assoc] using h
def marks : Nat → Int → List Int
  | 0, _ => []
  | n + 1, m => (m % 256) :: marks n (m + 1)
theorem marks_length : ∀ (n : Nat) (m : Int), (marks n m).length = n
  | 0, _ => rfl
  | n + 1, m => by simp [marks, marks_length n]
theorem mark_l0 (k : Nat) : ∀ (r pre : List Int) (m : Int), 0 ≤ m → m + r.length ≤ 9223372036854775806 → (pre ++ r).length ≤ 9223372036854775806 →
    laws_markByteS.l0 (k + r.length + 1) (pre ++ r) m (pre.length : Int) = some (m + r.length, pre ++ marks r.length m)
  | [], pre, m, h0, h1, hm => by
    unfold laws_markByteS.l0
    rw [if_neg (by simp)]
    simp [marks]
  | x :: r, pre, m, h0, h1, hm => by
    have h2 : (pre ++ x :: r).length = pre.length + r.length + 1 := by simp; omega
    have h3 : (x :: r).length = r.length + 1 := rfl
    rw [show k + (x :: r).length + 1 = (k + r.length + 1) + 1 by simp; omega]
    conv => lhs; unfold laws_markByteS.l0
    rw [if_pos (by omega), if_pos (by omega), w64 (n := m + 1) (by omega) (by omega), w64 (by omega) (by omega)]
    have e : (pre ++ x :: r).set ((pre.length : Int)).toNat (m % 256) = (pre ++ [m % 256]) ++ r := by
      rw [Int.toNat_natCast, List.set_append_right _ _ (Nat.le_refl _), Nat.sub_self, List.set_cons_zero, List.append_assoc, List.singleton_append]
    rw [e]
    have ih := mark_l0 k r (pre ++ [m % 256]) (m + 1) (by omega) (by omega) (by simpa using hm)
    rw [show (((pre ++ [m % 256]).length : Nat) : Int) = (pre.length : Int) + 1 by simp] at ih
    rw [ih, List.append_assoc, List.singleton_append]
    simp only [marks, List.length_cons]
    congr 2
    omega
theorem markB {l : List Int} (hm : l.length ≤ 281474976710656) : Cv (fun k => laws_markByteS.f k l 1) (1 + (l.length : Int), marks l.length 1) :=
  Cv.from (m := l.length + 1) (fun k => by
    have h := mark_l0 k l [] 1 (by omega) (by omega) (by simp; omega)
    unfold laws_markByteS.f
    exact h)
theorem held_l0 (k : Nat) : ∀ (n : Nat) (pre : List Int) (m : Int), 0 ≤ m → m + n ≤ 9223372036854775806 → pre.length + n ≤ 9223372036854775806 →
    laws_heldByteS.l0 (k + n + 1) (pre ++ marks n m) m (pre.length : Int) = some (m + n)
  | 0, pre, m, h0, h1, hm => by
    unfold laws_heldByteS.l0
    rw [if_neg (by simp [marks])]
    simp
  | n + 1, pre, m, h0, h1, hm => by
    have h2 : (pre ++ marks (n + 1) m).length = pre.length + n + 1 := by simp [marks_length]; omega
    rw [show k + (n + 1) + 1 = (k + n + 1) + 1 by omega]
    conv => lhs; unfold laws_heldByteS.l0
    have e : rd (pre ++ marks (n + 1) m) (pre.length : Int) = m % 256 := rd_mid pre _ _
    rw [if_pos (by omega), if_pos (by omega), e, if_pos rfl, w64 (n := m + 1) (by omega) (by omega), w64 (by omega) (by omega)]
    have ih := held_l0 k n (pre ++ [m % 256]) (m + 1) (by omega) (by omega) (by simp; omega)
    rw [show (((pre ++ [m % 256]).length : Nat) : Int) = (pre.length : Int) + 1 by simp, List.append_assoc, List.singleton_append] at ih
    rw [show marks (n + 1) m = (m % 256) :: marks n (m + 1) from rfl, ih]
    congr 1
    omega
theorem heldB {n : Nat} (hm : n ≤ 281474976710656) : Cv (fun k => laws_heldByteS.f k (marks n 1) 1) (1 + (n : Int)) :=
  Cv.from (m := n + 1) (fun k => by
    have h := held_l0 k n [] 1 (by omega) (by omega) (by simp; omega)
    unfold laws_heldByteS.f
    exact h)

theorem toList_loop (bs : ByteArray) : ∀ (n i : Nat) (r : List UInt8), i + n = bs.size → ByteArray.toList.loop bs i r = r.reverse ++ bs.data.toList.drop i
  | 0, i, r, h => by
    unfold ByteArray.toList.loop
    rw [if_neg (by omega), List.drop_eq_nil_of_le (by rw [Array.length_toList]; show bs.size ≤ i; omega), List.append_nil]
  | n + 1, i, r, h => by
    unfold ByteArray.toList.loop
    rw [if_pos (by omega), toList_loop bs n (i + 1) _ (by omega)]
    have hi : i < bs.data.toList.length := by rw [Array.length_toList]; show i < bs.size; omega
    rw [List.drop_eq_getElem_cons hi, List.reverse_cons, List.append_assoc, List.singleton_append]
    congr 2
    have hs : i < bs.data.size := by simpa using hi
    show bs.data[i]! = _
    rw [getElem!_pos bs.data i hs]
    simp
theorem toList_data (bs : ByteArray) : bs.toList = bs.data.toList := by
  unfold ByteArray.toList
  rw [toList_loop bs bs.size 0 [] (by omega)]
  simp
theorem str_eq {a b : List Int} (ha : By a) (hb : By b) : ((strOfNums a).toList == (strOfNums b).toList) = decide (a = b) := by
  rw [toList_data, toList_data, strOfNums_data, strOfNums_data]
  by_cases h : a = b
  · subst h
    simp
  · rw [decide_eq_false h]
    refine beq_eq_false_iff_ne.mpr (fun e => h (bytesOf_inj ha hb e))

/-! ### reading -/
def sizeOf2 (l : List Int) : Int := rd l 10 + 256 * rd l 11
def bodyOf (l : List Int) : List Int := (l.take (16 + sizeOf2 l).toNat).drop 16
/-- What DecodePage gives. -/
def decV (id : Int) (l : List Int) : Int × List Int × Bool :=
  if l.length = 256 ∧ sizeOf2 l ≤ 240 ∧ 0 ≤ id ∧ id ≤ 1023 ∧ 1 ≤ rd l 8 ∧ rd l 8 ≤ 4 ∧ pageOf id.toNat (rd l 8).toNat (bodyOf l) = l then (rd l 8, bodyOf l, true) else (0, [], false)
theorem decV_pos {id : Int} {l : List Int} (h : l.length = 256 ∧ sizeOf2 l ≤ 240 ∧ 0 ≤ id ∧ id ≤ 1023 ∧ 1 ≤ rd l 8 ∧ rd l 8 ≤ 4 ∧ pageOf id.toNat (rd l 8).toNat (bodyOf l) = l) : decV id l = (rd l 8, bodyOf l, true) := if_pos h
theorem decV_neg {id : Int} {l : List Int} (h : ¬ (l.length = 256 ∧ sizeOf2 l ≤ 240 ∧ 0 ≤ id ∧ id ≤ 1023 ∧ 1 ≤ rd l 8 ∧ rd l 8 ≤ 4 ∧ pageOf id.toNat (rd l 8).toNat (bodyOf l) = l)) : decV id l = (0, [], false) := if_neg h
theorem mid2 {l : List Int} (h : l.length = 256) : (l.take 12).drop 10 = [rd l 10, rd l 11] := by
  apply List.ext_getElem
  · simp [h]
  · intro i h1 h2
    have hi : i < 2 := by simpa using h2
    simp only [List.getElem_drop, List.getElem_take]
    rcases i with _ | _ | i
    · simp [rd, List.getD_eq_getElem?_getD, h]
    · simp [rd, List.getD_eq_getElem?_getD, h]
    · omega
theorem bodyOf_length {l : List Int} (h : l.length = 256) (h0 : 0 ≤ sizeOf2 l) (h1 : sizeOf2 l ≤ 240) : (((bodyOf l).length : Nat) : Int) = sizeOf2 l := by
  unfold bodyOf
  rw [List.length_drop, List.length_take, h]
  omega
theorem spec_dec {id : Int} {l : List Int} (hb : By l) : Cv (fun k => spec_DecodePage.f k id l) (decV id l) := by
  unfold spec_DecodePage.f
  refine Cv.bind (Cv.of rfl) ?_
  by_cases hl : (l.length : Int) = 256
  case neg =>
    rw [decV_neg (fun h => hl (by omega))]
    exact Cv.neg hl (Cv.of rfl)
  have hl' : l.length = 256 := by omega
  have b8 := By_rd hb 8
  have b10 := By_rd hb 10
  have b11 := By_rd hb 11
  refine Cv.pos hl (Cv.pos (by decide) (Cv.pos (by omega) ?_))
  rw [mid2 hl']
  refine Cv.bind (low2 b10 b11) ?_
  rw [show rd l 10 + 256 * rd l 11 = sizeOf2 l from rfl]
  have hs0 : 0 ≤ sizeOf2 l := by unfold sizeOf2; omega
  by_cases hs : sizeOf2 l > 240
  · rw [decV_neg (fun h => by omega)]
    exact Cv.pos hs (Cv.of rfl)
  refine Cv.neg hs (Cv.pos (by omega) ?_)
  rw [w64 (n := 16 + sizeOf2 l) (by omega) (by omega), w64 (n := rd l 8) (by omega) (by omega)]
  refine Cv.pos (by omega) (Cv.pos (by omega) ?_)
  rw [show (l.take (16 + sizeOf2 l).toNat).drop 16 = bodyOf l from rfl]
  have hbb : By (bodyOf l) := (hb.take _).drop _
  have hbl := bodyOf_length hl' hs0 (by omega)
  refine Cv.bind (spec_enc hbb) ?_
  unfold encV
  by_cases hok : okPage id (rd l 8) (bodyOf l).length
  · rw [if_pos hok]
    unfold okPage at hok
    refine Cv.pos rfl (Cv.bind (same (by rw [pageOf_length _ _ (by omega)]; decide)) ?_)
    by_cases he : pageOf id.toNat (rd l 8).toNat (bodyOf l) = l
    · rw [decV_pos ⟨hl', by omega, by omega, by omega, by omega, by omega, he⟩]
      refine Cv.pos (decide_eq_true he) (Cv.bind (v := bodyOf l) (Cv.of ?_) (Cv.of rfl))
      unfold spec_l1Bytes.f
      rw [Option.bind_some, if_pos (by simp; omega)]
      rfl
    · rw [decV_neg (fun h => he h.2.2.2.2.2.2)]
      exact Cv.neg (fun e => he (of_decide_eq_true e)) (Cv.of rfl)
  · rw [if_neg hok, decV_neg]
    · exact Cv.neg (by decide) (Cv.of rfl)
    · unfold okPage at hok
      intro h
      omega
theorem impl_dec {id : Int} {l : List Int} (hb : By l) : Cv (fun k => impl_DecodePage.f k id l) (decV id l) := by
  have b8 := By_rd hb 8
  have b10 := By_rd hb 10
  have b11 := By_rd hb 11
  have hs0 : 0 ≤ sizeOf2 l := by unfold sizeOf2; omega
  have key : Cv (fun k => impl_parsePage.f k id l) (if l.length = 256 then (if 0 ≤ id ∧ id ≤ 1023 ∧ 1 ≤ rd l 8 ∧ rd l 8 ≤ 4 ∧ sizeOf2 l ≤ 240 then (if pageOf id.toNat (rd l 8).toNat (bodyOf l) = l then (0, id, rd l 8, sizeOf2 l, bodyOf l) else (2, 0, 0, 0, [])) else (2, 0, 0, 0, [])) else (1, 0, 0, 0, [])) := by
    unfold impl_parsePage.f
    by_cases hl : l.length = 256
    case neg =>
      rw [if_neg hl]
      exact Cv.neg hl (Cv.of rfl)
    rw [if_pos hl]
    refine Cv.pos hl ?_
    rw [mid2 hl]
    refine Cv.bind (num2 b10 b11) ?_
    rw [show rd l 10 + 256 * rd l 11 = sizeOf2 l from rfl, w64 (n := rd l 8) (by omega) (by omega)]
    refine Cv.bind (Cv.of (valid_eq _ _ _)) ?_
    by_cases hok : 0 ≤ id ∧ id ≤ 1023 ∧ 1 ≤ rd l 8 ∧ rd l 8 ≤ 4 ∧ sizeOf2 l ≤ 240
    case neg =>
      rw [if_neg hok]
      exact Cv.neg (by rw [decide_eq_true_eq]; exact hok) (Cv.of rfl)
    rw [if_pos hok]
    refine Cv.pos (decide_eq_true hok) (Cv.pos (by omega) ?_)
    rw [show (l.take (16 + sizeOf2 l).toNat).drop 16 = bodyOf l from rfl]
    have hbb : By (bodyOf l) := (hb.take _).drop _
    have hbl := bodyOf_length hl hs0 (by omega)
    have hp : Cv (fun k => impl_page_bytes.f k id (rd l 8) (sizeOf2 l) (bodyOf l)) (pageOf id.toNat (rd l 8).toNat (bodyOf l)) := by
      have h := page_bytes (id := id.toNat) (kind := (rd l 8).toNat) (body := bodyOf l) (by omega) hbb (by omega)
      rw [Int.toNat_of_nonneg hok.1, Int.toNat_of_nonneg b8.1, hbl] at h
      exact h
    refine Cv.bind hp ?_
    refine Cv.bind (v := decide (pageOf id.toNat (rd l 8).toNat (bodyOf l) = l)) (Cv.of ?_) ?_
    · unfold bytes_Equal.f
      rw [str_eq (pageOf_by _ _ hbb) hb]
    · by_cases he : pageOf id.toNat (rd l 8).toNat (bodyOf l) = l
      · rw [if_pos he]
        exact Cv.pos (decide_eq_true he) (Cv.of rfl)
      · rw [if_neg he]
        exact Cv.neg (by rw [decide_eq_true_eq]; exact he) (Cv.of rfl)
  have hkey := key
  clear key
  unfold impl_DecodePage.f
  by_cases hl : l.length = 256
  case neg =>
    rw [if_neg hl] at hkey
    rw [decV_neg (fun h => hl h.1)]
    exact Cv.bind hkey (Cv.neg (by decide) (Cv.of rfl))
  rw [if_pos hl] at hkey
  by_cases hok : 0 ≤ id ∧ id ≤ 1023 ∧ 1 ≤ rd l 8 ∧ rd l 8 ≤ 4 ∧ sizeOf2 l ≤ 240
  case neg =>
    rw [if_neg hok] at hkey
    rw [decV_neg (fun h => hok ⟨h.2.2.1, h.2.2.2.1, h.2.2.2.2.1, h.2.2.2.2.2.1, h.2.1⟩)]
    exact Cv.bind hkey (Cv.neg (by decide) (Cv.of rfl))
  rw [if_pos hok] at hkey
  by_cases he : pageOf id.toNat (rd l 8).toNat (bodyOf l) = l
  · rw [if_pos he] at hkey
    rw [decV_pos ⟨hl, hok.2.2.2.2, hok.1, hok.2.1, hok.2.2.1, hok.2.2.2.1, he⟩]
    refine Cv.bind hkey (Cv.pos rfl (Cv.bind (v := bodyOf l) (Cv.of ?_) (Cv.of rfl)))
    have hbl := bodyOf_length hl hs0 (by omega)
    unfold bytes_Clone.f
    rw [if_pos (by show (bodyOf l).length ≤ _; omega)]
  · rw [if_neg he] at hkey
    rw [decV_neg (fun h => he h.2.2.2.2.2.2)]
    exact Cv.bind hkey (Cv.neg (by decide) (Cv.of rfl))
end Go.Proofs.Ytlopmffdebhpfaa.Pure
