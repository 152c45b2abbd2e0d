/- Texts of this proof, joined in their build order: G0 G78 G136 Cv G77 G67 G68 G69 G21 G14 Base Blk G135 Shelf Lib1 Head PageB G130 G79 G131 Parse Err Page Enc G15 G17 G18 G19 Dec Mark G85 G138 G86 G26 ToDisk MarkD LMap LSet LawL. -/
import Derived.Test.YtlopmffdebhpfaaProg
import Derived.Below
import Derived.Deep.Draws
import Derived.Deep.AppendLies
import Derived.Maps.AppendAt
import Derived.OwnWalk
import Derived.Laws.BytesArg
import Derived.Laws.MakeOwn
import Derived.Laws.OwnMore
import Derived.Deep.OwnRows
import Derived.Tactics
import Derived.Lib.ConvBytes
import Derived.Laws.Slices
import Derived.WalkKit
import Derived.KernelRfl
import Derived.RowKit3
import Derived.Deep.LoopGhost
import Derived.Deep.QuietTactic
import Derived.BigQuiet
import Derived.WideLaws
import Derived.Deep.DeepCutAuto
import Derived.Deep.CutBlock
import Derived.Deep.RegionHeld3
import Derived.Laws.Rows
import Derived.Lib.AppendStr
import Derived.ArgAppend
import Derived.Laws.IdiomCopy
import Derived.OrdersHeld
import Derived.Laws.BitsLemmas
import Derived.RowKit
import Derived.Test.YtlopmffdebhpfaaK9WWords
import Derived.Test.YtlopmffdebhpfaaK9WLast
import Derived.Test.YtlopmffdebhpfaaK9WTab
import Derived.Test.YtlopmffdebhpfaaK9WFour
import Derived.Test.YtlopmffdebhpfaaK9WQPut
import Derived.Test.YtlopmffdebhpfaaK9WApart
import Derived.Test.YtlopmffdebhpfaaK9WArr
import Derived.Test.YtlopmffdebhpfaaK9WZeros
import Derived.Test.YtlopmffdebhpfaaK9WFoot
import Derived.Test.YtlopmffdebhpfaaK9WKept
import Derived.Test.YtlopmffdebhpfaaK9WShare
import Derived.Test.YtlopmffdebhpfaaK9WN
import Derived.Test.YtlopmffdebhpfaaK9WFootNe
import Derived.Test.YtlopmffdebhpfaaK9WAt
import Derived.Test.YtlopmffdebhpfaaK9WEqStruct
import Derived.Test.YtlopmffdebhpfaaK9WRepsOne
import Derived.Test.YtlopmffdebhpfaaK9WInv
import Derived.Test.YtlopmffdebhpfaaK9WInvWords
import Derived.Test.YtlopmffdebhpfaaK9WGuard
import Derived.Test.YtlopmffdebhpfaaK9WNEv
import Derived.Test.YtlopmffdebhpfaaK9WMore
import Derived.Shelf.Bytes.SlSearch0
import Derived.Ground.SlbCloneProg
import Derived.Shelf.Bytes.SlClone
import Derived.Ground.SlbNamesProg
import Derived.Shelf.Bytes.SlJoin
import Derived.Shelf.Bytes.SlEqualAll
import Derived.Shelf.Bytes.Small
import Derived.LaidEql
import Derived.Stop.Asserts
import Derived.RowKitTokens
import Derived.Maps.OwnSet
/-! ## G0 -/
namespace Go.Proofs.Ytlopmffdebhpfaa.G
open Go.RowKit Go.Proofs.YtlopmffdebhpfaaW.PrintWords Go.Proofs.YtlopmffdebhpfaaW.PrintLast Go.Proofs.YtlopmffdebhpfaaW.PrintMore
attribute [local go_sem] max2_int min2_int max_two min_two max_three min_three max_four min_four
set_option linter.unusedVariables false
set_option linter.unusedSimpArgs false



def errW : Option Int → Value
  | none => .nilIface
  | some c => .iface 0 (.int .i64 c)
theorem errW_none : errW none = .nilIface := rfl
theorem errW_some (c : Int) : errW (some c) = .iface 0 (.int .i64 c) := rfl

theorem info5 : (Try.prog.info? 5).map (fun i => (i.zero, i.size, i.bytes)) = some (some (.int .u8 0), 1, 1) := by kernel_rfl
theorem info22 : (Try.prog.info? 22).map (fun i => (i.zero, i.size, i.bytes)) = some (some (.slice none 0 0), 1, 24) := by kernel_rfl
theorem info63 : (Try.prog.info? 63).map (fun i => (i.zero, i.size, i.bytes)) = some (some (.agg #[(.int .i64 0), (.int .i64 0), (.slice none 0 0)]), 3, 40) := by kernel_rfl
theorem info185 : (Try.prog.info? 185).map (fun i => (i.zero, i.size, i.bytes)) = some (some (.agg #[(.int .i64 0), (.slice none 0 0)]), 2, 32) := by kernel_rfl
-- the values' own types
def rd_L2 (xs : List (List Int)) (i : Int) : (List Int) := xs.getD i.toNat ([] : List Int)
theorem at_L2 {w : World} {A : Option Addr} {n : Nat} {xs : List (List Int)} (h : Kd.C (Kd.slice 5 (Kd.int .u8)) w A n xs) (i : Int) (h0 : 0 ≤ i) (h1 : i < n) : ∃ ad A0 c0, A = some ad ∧ w.cell? (ad.add i.toNat) = some (.slice A0 (rd_L2 xs i).length c0) ∧ (rd_L2 xs i).length ≤ c0 ∧ (Kd.int .u8).C w A0 (rd_L2 xs i).length (rd_L2 xs i) := by
  obtain ⟨ad, c, e, _, hK, hc0⟩ := Kd.C_get h ([] : List Int) i h0 h1
  have hc : ∀ j u, c[j]? = some u → w.cell? (ad.add (i.toNat * 1 + j)) = some u := hc0
  obtain ⟨A0, c0, rfl, l0, g0⟩ := hK
  exact ⟨ad, A0, c0, e, by have hq := hc 0 _ rfl; rwa [Nat.mul_one, Nat.add_zero] at hq, l0, g0⟩

/-! #### struct type 184 -/
structure S184 where
  f0 : Int
  f1 : (List Int)
def k184 : Kd S184 := Kd.iso (Kd.pair (Kd.int .i64) (Kd.slice 5 (Kd.int .u8))) (fun x : S184 => (x.f0, x.f1))
/-! #### struct type 185 -/
structure S185 where
  f0 : Int
  f1 : (List Int)
def z185 : S185 := ⟨(0 : Int), ([] : List Int)⟩
def k185 : Kd S185 := Kd.iso (Kd.pair (Kd.int .i64) (Kd.slice 5 (Kd.int .u8))) (fun x : S185 => (x.f0, x.f1))
theorem k185_open {w : World} {x : S185} {cs : List Value} (h : k185.K w x cs) : ∃ A1 c1, cs = [.int .i64 x.f0, .slice A1 x.f1.length c1] ∧ x.f1.length ≤ c1 ∧ (Kd.int .u8).C w A1 x.f1.length x.f1 := by
  obtain ⟨_, _, rfl, rfl, ⟨A1, c1, rfl, l1, g1⟩⟩ := h
  exact ⟨A1, c1, rfl, l1, g1⟩
theorem k185_openM {w : World} {base : Nat} {ok : Nat → Prop} {x : S185} {cs : List Value} (h : k185.M w base ok x cs) : ∃ v1, cs = [.int .i64 x.f0, v1] ∧ (Kd.int .u8).R 5 w base ok v1 x.f1 := by
  obtain ⟨_, _, rfl, rfl, ⟨v1, rfl, g1⟩⟩ := h
  exact ⟨v1, rfl, g1⟩
theorem k185_mkM (w : World) (base : Nat) (ok : Nat → Prop) (x : S185) {v1 : Value} (g1 : (Kd.int .u8).R 5 w base ok v1 x.f1) : k185.M w base ok x [.int .i64 x.f0, v1] := ⟨[.int .i64 x.f0], [v1], rfl, rfl, ⟨v1, rfl, g1⟩⟩
def rd_T185 (xs : List S185) (i : Int) : S185 := xs.getD i.toNat z185
theorem at_T185 {w : World} {A : Option Addr} {n : Nat} {xs : List S185} (h : Kd.C k185 w A n xs) (i : Int) (h0 : 0 ≤ i) (h1 : i < n) : ∃ ad A1 c1, A = some ad ∧ w.cell? (ad.add (i.toNat * 2)) = some (.int .i64 (rd_T185 xs i).f0) ∧ w.cell? ⟨(ad.add (i.toNat * 2)).block, (ad.add (i.toNat * 2)).off + 1, none⟩ = some (.slice A1 (rd_T185 xs i).f1.length c1) ∧ (rd_T185 xs i).f1.length ≤ c1 ∧ (Kd.int .u8).C w A1 (rd_T185 xs i).f1.length (rd_T185 xs i).f1 := by
  obtain ⟨ad, c, e, _, hK, hc0⟩ := Kd.C_get h z185 i h0 h1
  have hc : ∀ j u, c[j]? = some u → w.cell? (ad.add (i.toNat * 2 + j)) = some u := hc0
  obtain ⟨A1, c1, rfl, l1, g1⟩ := k185_open hK
  exact ⟨ad, A1, c1, e, hc 0 _ rfl, by rw [← add_field _ _ 1 (by omega)]; exact hc 1 _ rfl, l1, g1⟩

/-! #### struct type 59 -/
structure S59 where
  f0 : Int
  f1 : Int
  f2 : (List Int)
/-! #### struct type 63 -/
structure S63 where
  f0 : Int
  f1 : Int
  f2 : (List Int)
def z63 : S63 := ⟨(0 : Int), (0 : Int), ([] : List Int)⟩
def k63 : Kd S63 := Kd.iso (Kd.pair (Kd.int .i64) (Kd.pair (Kd.int .i64) (Kd.slice 5 (Kd.int .u8)))) (fun x : S63 => (x.f0, x.f1, x.f2))
theorem k63_open {w : World} {x : S63} {cs : List Value} (h : k63.K w x cs) : ∃ A2 c2, cs = [.int .i64 x.f0, .int .i64 x.f1, .slice A2 x.f2.length c2] ∧ x.f2.length ≤ c2 ∧ (Kd.int .u8).C w A2 x.f2.length x.f2 := by
  obtain ⟨_, _, rfl, rfl, ⟨_, _, rfl, rfl, ⟨A2, c2, rfl, l2, g2⟩⟩⟩ := h
  exact ⟨A2, c2, rfl, l2, g2⟩
theorem k63_openM {w : World} {base : Nat} {ok : Nat → Prop} {x : S63} {cs : List Value} (h : k63.M w base ok x cs) : ∃ v2, cs = [.int .i64 x.f0, .int .i64 x.f1, v2] ∧ (Kd.int .u8).R 5 w base ok v2 x.f2 := by
  obtain ⟨_, _, rfl, rfl, ⟨_, _, rfl, rfl, ⟨v2, rfl, g2⟩⟩⟩ := h
  exact ⟨v2, rfl, g2⟩
theorem k63_mkM (w : World) (base : Nat) (ok : Nat → Prop) (x : S63) {v2 : Value} (g2 : (Kd.int .u8).R 5 w base ok v2 x.f2) : k63.M w base ok x [.int .i64 x.f0, .int .i64 x.f1, v2] := ⟨[.int .i64 x.f0], [.int .i64 x.f1, v2], rfl, rfl, ⟨[.int .i64 x.f1], [v2], rfl, rfl, ⟨v2, rfl, g2⟩⟩⟩
def rd_T63 (xs : List S63) (i : Int) : S63 := xs.getD i.toNat z63
theorem at_T63 {w : World} {A : Option Addr} {n : Nat} {xs : List S63} (h : Kd.C k63 w A n xs) (i : Int) (h0 : 0 ≤ i) (h1 : i < n) : ∃ ad A2 c2, A = some ad ∧ w.cell? (ad.add (i.toNat * 3)) = some (.int .i64 (rd_T63 xs i).f0) ∧ w.cell? ⟨(ad.add (i.toNat * 3)).block, (ad.add (i.toNat * 3)).off + 1, none⟩ = some (.int .i64 (rd_T63 xs i).f1) ∧ w.cell? ⟨(ad.add (i.toNat * 3)).block, (ad.add (i.toNat * 3)).off + 2, none⟩ = some (.slice A2 (rd_T63 xs i).f2.length c2) ∧ (rd_T63 xs i).f2.length ≤ c2 ∧ (Kd.int .u8).C w A2 (rd_T63 xs i).f2.length (rd_T63 xs i).f2 := by
  obtain ⟨ad, c, e, _, hK, hc0⟩ := Kd.C_get h z63 i h0 h1
  have hc : ∀ j u, c[j]? = some u → w.cell? (ad.add (i.toNat * 3 + j)) = some u := hc0
  obtain ⟨A2, c2, rfl, l2, g2⟩ := k63_open hK
  exact ⟨ad, A2, c2, e, hc 0 _ rfl, by rw [← add_field _ _ 1 (by omega)]; exact hc 1 _ rfl, by rw [← add_field _ _ 2 (by omega)]; exact hc 2 _ rfl, l2, g2⟩

/-! #### struct type 100 -/
structure S100 where
  f0 : Int
  f1 : Int
  f2 : Int
/-! #### struct type 102 -/
structure S102 where
  f0 : S100
  f1 : (List Int)
end Go.Proofs.Ytlopmffdebhpfaa.G

/-! ## G78 -/
namespace Go.Proofs.Ytlopmffdebhpfaa.G
open Go.RowKit Go.Proofs.YtlopmffdebhpfaaW.PrintWords Go.Proofs.YtlopmffdebhpfaaW.PrintLast Go.Proofs.YtlopmffdebhpfaaW.PrintMore
attribute [local go_sem] max2_int min2_int max_two min_two max_three min_three max_four min_four
set_option linter.unusedVariables false
set_option linter.unusedSimpArgs false

/-! ### spec_Crc32: function 78 -/
mutual
def spec_Crc32.l0 : Nat → List Int → Int → Int → Option (Int)
  | 0, _, _, _ => none
  | k + 1, x0, x3, x4 => if x4 < (x0.length : Int) then (if 0 ≤ x4 then (spec_Crc32.l1 k x0 (Go.bits .xor .i64 x3 (wrap64 (rd x0 x4))) x4 0) else (none)) else (some (Go.bits .xor .i64 x3 4294967295))
def spec_Crc32.l1 : Nat → List Int → Int → Int → Int → Option (Int)
  | 0, _, _, _, _ => none
  | k + 1, x0, x3, x4, x5 => if x5 < 8 then (if (Int.tmod x3 2) = 1 then (spec_Crc32.l1 k x0 (Go.bits .xor .i64 (wrap64 (Int.tdiv x3 2)) 3988292384) x4 (wrap64 (x5 + 1))) else (spec_Crc32.l1 k x0 (wrap64 (Int.tdiv x3 2)) x4 (wrap64 (x5 + 1)))) else (spec_Crc32.l0 k x0 x3 (wrap64 (x4 + 1)))
end
def spec_Crc32.f (k : Nat) (l0 : List Int) : Option (Int) := spec_Crc32.l0 k l0 4294967295 0
set_option maxRecDepth 100000 in
theorem spec_Crc32.mono_l : ∀ k, (∀ y0 y1 y2, LeO (spec_Crc32.l0 k y0 y1 y2) (spec_Crc32.l0 (k + 1) y0 y1 y2)) ∧ (∀ y0 y1 y2 y3, LeO (spec_Crc32.l1 k y0 y1 y2 y3) (spec_Crc32.l1 (k + 1) y0 y1 y2 y3))
  | 0 => ⟨fun _ _ _ r h => by simp [spec_Crc32.l0] at h, fun _ _ _ _ r h => by simp [spec_Crc32.l1] at h⟩
  | k + 1 => by
    obtain ⟨ih0, ih1⟩ := spec_Crc32.mono_l k
    refine ⟨?_, ?_⟩
    · intro y0 y1 y2
      unfold spec_Crc32.l0
      repeat' first
      | (with_reducible exact ih0 _ _ _)
      | (with_reducible exact ih1 _ _ _ _)
      | (with_reducible exact LeO.refl _)
      | (with_reducible exact LeO.none _)
      | (with_reducible refine LeO.ite ?_ ?_)
      | (with_reducible refine LeO.bind ?_ (fun _ => ?_))
      | exact ih0 _ _ _
      | exact ih1 _ _ _ _
      | exact LeO.none _
      | refine LeO.ite ?_ ?_
      | refine LeO.bind ?_ (fun _ => ?_)
    · intro y0 y1 y2 y3
      unfold spec_Crc32.l1
      repeat' first
      | (with_reducible exact ih0 _ _ _)
      | (with_reducible exact ih1 _ _ _ _)
      | (with_reducible exact LeO.refl _)
      | (with_reducible exact LeO.none _)
      | (with_reducible refine LeO.ite ?_ ?_)
      | (with_reducible refine LeO.bind ?_ (fun _ => ?_))
      | exact ih0 _ _ _
      | exact ih1 _ _ _ _
      | exact LeO.none _
      | refine LeO.ite ?_ ?_
      | refine LeO.bind ?_ (fun _ => ?_)
set_option maxRecDepth 100000 in
theorem spec_Crc32.mono : ∀ a0 k, LeO (spec_Crc32.f k a0) (spec_Crc32.f (k + 1) a0) := by
  intro a0 k
  obtain ⟨ih0, ih1⟩ := spec_Crc32.mono_l k
  unfold spec_Crc32.f
  repeat' first
      | (with_reducible exact ih0 _ _ _)
      | (with_reducible exact ih1 _ _ _ _)
      | (with_reducible exact LeO.refl _)
      | (with_reducible exact LeO.none _)
      | (with_reducible refine LeO.ite ?_ ?_)
      | (with_reducible refine LeO.bind ?_ (fun _ => ?_))
      | exact ih0 _ _ _
      | exact ih1 _ _ _ _
      | exact LeO.none _
      | refine LeO.ite ?_ ?_
      | refine LeO.bind ?_ (fun _ => ?_)
set_option maxHeartbeats 8000000 in
set_option maxRecDepth 100000 in
theorem spec_Crc32.calls (k : Nat) (A0 : Option Addr) (c0 : Nat) (l0 : List Int) (r : Int) (w : World) (hr0 : Kd.C (Kd.int .u8) w A0 l0.length l0) (hc0 : l0.length ≤ c0) (h : spec_Crc32.f k l0 = some r) :
    Calls Try.prog 78 #[.slice A0 l0.length c0] w fun e w' => e = .returned (.int .i64 r) ∧ Drawn0 w w' := by
  have HR0 := Aside0.mk hr0
  have HC0 := Aside0.mk hc0
  clear hr0 hc0
  have H : (spec_Crc32.l0 k l0 4294967295 0) = some r := h
  clear h
  have H' := Aside0.mk H
  clear H
  go_enter Try.func78, Try.ntmps78
  go_wp2
  go_loopg [3, 4] k (fun kq v3 v4 w' => ∃ (x3_1 : Int) (x4_1 : Int), v3 = .int .i64 x3_1 ∧ v4 = .int .i64 x4_1 ∧ Aside0 (spec_Crc32.l0 kq l0 x3_1 x4_1 = some r) ∧ Aside0 (kq ≤ k) ∧ Drawn0 w w')
  case atStart => exact ⟨(4294967295), (0), (by first | rfl | (simp; done) | (simp [*]; done)), (by first | rfl | (simp; done) | (simp [*]; done)), H', ⟨Nat.le_refl _⟩, by repeat (first | exact Drawn0.refl _ | apply Drawn0.step)⟩
  case round =>
    clear H'
    obtain ⟨x3_1, x4_1, rfl, rfl, HA, HK1, ⟨m1, rfl⟩⟩ := hrel
    cases gk with
    | zero => exact absurd HA.out (by simp [spec_Crc32.l0])
    | succ k1 =>
      have H := HA.out
      clear HA
      simp only [spec_Crc32.l0] at H
      by_cases c2 : x4_1 < (l0.length : Int)
      · rw [if_pos c2] at H
        have c2b0 : decide (x4_1 < (l0.length : Int)) = true := decide_eq_true c2
        clear c2
        by_cases c3 : 0 ≤ x4_1
        · rw [if_pos c3] at H
          have c3b0 : decide (0 ≤ x4_1) = true := decide_eq_true c3
          clear c3
          have H' := Aside0.mk H
          clear H
          have p107 : 0 ≤ (x4_1 : Int) := of_decide_eq_true (by first | (with_reducible assumption) | assumption)
          have q107 : x4_1 < (l0.length : Int) := of_decide_eq_true (by first | (with_reducible assumption) | assumption)
          obtain ⟨ad107, e107, hx107_0⟩ := Kd.at_int HR0.out x4_1 p107 q107
          cases e107
          replace p107 := eq_true p107
          replace q107 := eq_true q107
          go_wp2
          go_loopg [3, 5] k1 (fun kq v3 v5 w' => ∃ (x3_2 : Int) (x5_2 : Int), v3 = .int .i64 x3_2 ∧ v5 = .int .i64 x5_2 ∧ Aside0 (spec_Crc32.l1 kq l0 x3_2 x4_1 x5_2 = some r) ∧ Aside0 (kq ≤ k1) ∧ Drawn0 w w')
          case atStart => exact ⟨(Go.bits .xor .i64 x3_1 (wrap64 (rd l0 x4_1))), (0), (by first | rfl | (simp; done) | (simp [*]; done)), (by first | rfl | (simp; done) | (simp [*]; done)), H', ⟨Nat.le_refl _⟩, by repeat (first | exact Drawn0.refl _ | apply Drawn0.step)⟩
          case round =>
            clear H'
            try clear p1
            try clear q1
            try clear hx1
            try clear c2
            try clear c2b0
            try clear p2
            try clear c3
            try clear c3b0
            try clear hx107_0
            try clear p107
            try clear q107
            obtain ⟨x3_2, x5_2, rfl, rfl, HA, HK2, ⟨m2, rfl⟩⟩ := hrel
            cases gk with
            | zero => exact absurd HA.out (by simp [spec_Crc32.l1])
            | succ k2 =>
              have H := HA.out
              clear HA
              simp only [spec_Crc32.l1] at H
              by_cases c4 : x5_2 < 8
              · rw [if_pos c4] at H
                have c4b0 : decide (x5_2 < 8) = true := decide_eq_true c4
                clear c4
                by_cases c5 : (Int.tmod x3_2 2) = 1
                · rw [if_pos c5] at H
                  have c5b0 : ((Int.tmod x3_2 2) == 1) = true := beq_iff_eq.mpr c5
                  have c5b1 : ((Int.tmod x3_2 2) != 1) = false := bne_eq_false_iff_eq.mpr c5
                  clear c5
                  have H' := Aside0.mk H
                  clear H
                  go_wp2
                  go_roundg k2
                  case measure => have := HK1.out; have := HK2.out; omega
                  case rel => exact ⟨(Go.bits .xor .i64 (wrap64 (Int.tdiv x3_2 2)) 3988292384), (wrap64 (x5_2 + 1)), (by first | rfl | (simp; done) | (simp [*]; done)), (by first | rfl | (simp; done) | (simp [*]; done)), H', ⟨by have := HK1.out; have := HK2.out; omega⟩, by repeat (first | exact Drawn0.refl _ | apply Drawn0.step)⟩
                · rw [if_neg c5] at H
                  have c5b0 : ((Int.tmod x3_2 2) == 1) = false := beq_eq_false_iff_ne.mpr c5
                  have c5b1 : ((Int.tmod x3_2 2) != 1) = true := bne_iff_ne.mpr c5
                  have H' := Aside0.mk H
                  clear H
                  go_wp2
                  go_roundg k2
                  case measure => have := HK1.out; have := HK2.out; omega
                  case rel => exact ⟨(wrap64 (Int.tdiv x3_2 2)), (wrap64 (x5_2 + 1)), (by first | rfl | (simp; done) | (simp [*]; done)), (by first | rfl | (simp; done) | (simp [*]; done)), H', ⟨by have := HK1.out; have := HK2.out; omega⟩, by repeat (first | exact Drawn0.refl _ | apply Drawn0.step)⟩
              · rw [if_neg c4] at H
                have c4b0 : decide (x5_2 < 8) = false := decide_eq_false c4
                clear c4
                have H' := Aside0.mk H
                clear H
                go_wp2
                go_roundg k2
                case measure => have := HK1.out; have := HK2.out; omega
                case rel => exact ⟨(x3_2), (wrap64 (x4_1 + 1)), (by first | rfl | (simp; done) | (simp [*]; done)), (by first | rfl | (simp; done) | (simp [*]; done)), H', ⟨by have := HK1.out; have := HK2.out; omega⟩, by repeat (first | exact Drawn0.refl _ | apply Drawn0.step)⟩
        · rw [if_neg c3] at H
          exact absurd H (by simp)
      · rw [if_neg c2] at H
        have c2b0 : decide (x4_1 < (l0.length : Int)) = false := decide_eq_false c2
        clear c2
        obtain rfl := Option.some.inj H
        go_wp2
        go_ret
        exact ⟨by first | rfl | (simp; done) | (simp [*]; done), by repeat (first | exact Drawn0.refl _ | apply Drawn0.step)⟩

end Go.Proofs.Ytlopmffdebhpfaa.G

/-! ## G136 -/
namespace Go.Proofs.Ytlopmffdebhpfaa.G
open Go.RowKit Go.Proofs.YtlopmffdebhpfaaW.PrintWords Go.Proofs.YtlopmffdebhpfaaW.PrintLast Go.Proofs.YtlopmffdebhpfaaW.PrintMore
attribute [local go_sem] max2_int min2_int max_two min_two max_three min_three max_four min_four
set_option linter.unusedVariables false
set_option linter.unusedSimpArgs false

/-! ### impl_Crc32: function 136 -/
mutual
def impl_Crc32.l0 : Nat → Int → List Int → Int → Int → Option (Int)
  | 0, _, _, _, _ => none
  | k + 1, x3, x7, x8, x9 => if x9 < x8 then (if 0 ≤ x9 then (if x9 < (x7.length : Int) then (impl_Crc32.l1 k (Go.bits .xor .u32 x3 ((rd x7 x9) % 4294967296)) x7 x8 x9 0) else (none)) else (none)) else (some (wrap64 (Go.bits .xor .u32 x3 4294967295)))
def impl_Crc32.l1 : Nat → Int → List Int → Int → Int → Int → Option (Int)
  | 0, _, _, _, _, _ => none
  | k + 1, x3, x7, x8, x9, x17 => if x17 < 8 then (if (Go.bits .and .u32 x3 1) = 1 then (impl_Crc32.l1 k (Go.bits .xor .u32 (x3 / 2) 3988292384) x7 x8 x9 (wrap64 (x17 + 1))) else (impl_Crc32.l1 k (x3 / 2) x7 x8 x9 (wrap64 (x17 + 1)))) else (impl_Crc32.l0 k x3 x7 x8 (wrap64 (x9 + 1)))
end
def impl_Crc32.f (k : Nat) (l0 : List Int) : Option (Int) := impl_Crc32.l0 k 4294967295 l0 (l0.length : Int) 0
set_option maxHeartbeats 8000000 in
set_option maxRecDepth 100000 in
theorem impl_Crc32.calls (k : Nat) (A0 : Option Addr) (c0 : Nat) (l0 : List Int) (r : Int) (w : World) (hr0 : Kd.C (Kd.int .u8) w A0 l0.length l0) (hc0 : l0.length ≤ c0) (h : impl_Crc32.f k l0 = some r) :
    Calls Try.prog 136 #[.slice A0 l0.length c0] w fun e w' => e = .returned (.int .i64 r) ∧ Drawn0 w w' := by
  have HR0 := Aside0.mk hr0
  have HC0 := Aside0.mk hc0
  clear hr0 hc0
  have H : (impl_Crc32.l0 k 4294967295 l0 (l0.length : Int) 0) = some r := h
  clear h
  have H' := Aside0.mk H
  clear H
  go_enter Try.func136, Try.ntmps136
  go_wp2
  go_loopg [3, 9] k (fun kq v3 v9 w' => ∃ (x3_1 : Int) (x9_1 : Int), v3 = .int .u32 x3_1 ∧ v9 = .int .i64 x9_1 ∧ Aside0 (impl_Crc32.l0 kq x3_1 l0 (l0.length : Int) x9_1 = some r) ∧ Aside0 (kq ≤ k) ∧ Drawn0 w w')
  case atStart => exact ⟨(4294967295), (0), (by first | rfl | (simp; done) | (simp [*]; done)), (by first | rfl | (simp; done) | (simp [*]; done)), H', ⟨Nat.le_refl _⟩, by repeat (first | exact Drawn0.refl _ | apply Drawn0.step)⟩
  case round =>
    clear H'
    try clear c1
    obtain ⟨x3_1, x9_1, rfl, rfl, HA, HK1, ⟨m1, rfl⟩⟩ := hrel
    cases gk with
    | zero => exact absurd HA.out (by simp [impl_Crc32.l0])
    | succ k1 =>
      have H := HA.out
      clear HA
      simp only [impl_Crc32.l0] at H
      by_cases c2 : x9_1 < (l0.length : Int)
      · rw [if_pos c2] at H
        have c2b0 : decide (x9_1 < (l0.length : Int)) = true := decide_eq_true c2
        clear c2
        by_cases c3 : 0 ≤ x9_1
        · rw [if_pos c3] at H
          have c3b0 : decide (0 ≤ x9_1) = true := decide_eq_true c3
          clear c3
          by_cases c4 : x9_1 < (l0.length : Int)
          · rw [if_pos c4] at H
            have c4b0 : decide (x9_1 < (l0.length : Int)) = true := decide_eq_true c4
            clear c4
            have H' := Aside0.mk H
            clear H
            have p749 : 0 ≤ (x9_1 : Int) := of_decide_eq_true (by first | (with_reducible assumption) | assumption)
            have q749 : x9_1 < (l0.length : Int) := of_decide_eq_true (by first | (with_reducible assumption) | assumption)
            obtain ⟨ad749, e749, hx749_0⟩ := Kd.at_int HR0.out x9_1 p749 q749
            cases e749
            replace p749 := eq_true p749
            replace q749 := eq_true q749
            go_wp2
            go_loopg [3, 17] k1 (fun kq v3 v17 w' => ∃ (x3_2 : Int) (x17_2 : Int), v3 = .int .u32 x3_2 ∧ v17 = .int .i64 x17_2 ∧ Aside0 (impl_Crc32.l1 kq x3_2 l0 (l0.length : Int) x9_1 x17_2 = some r) ∧ Aside0 (kq ≤ k1) ∧ Drawn0 w w')
            case atStart => exact ⟨(Go.bits .xor .u32 x3_1 ((rd l0 x9_1) % 4294967296)), (0), (by first | rfl | (simp; done) | (simp [*]; done)), (by first | rfl | (simp; done) | (simp [*]; done)), H', ⟨Nat.le_refl _⟩, by repeat (first | exact Drawn0.refl _ | apply Drawn0.step)⟩
            case round =>
              clear H'
              try clear c1
              try clear c2
              try clear c2b0
              try clear p2
              try clear c3
              try clear c3b0
              try clear c4
              try clear c4b0
              try clear hx749_0
              try clear p749
              try clear q749
              obtain ⟨x3_2, x17_2, rfl, rfl, HA, HK2, ⟨m2, rfl⟩⟩ := hrel
              cases gk with
              | zero => exact absurd HA.out (by simp [impl_Crc32.l1])
              | succ k2 =>
                have H := HA.out
                clear HA
                simp only [impl_Crc32.l1] at H
                by_cases c5 : x17_2 < 8
                · rw [if_pos c5] at H
                  have c5b0 : decide (x17_2 < 8) = true := decide_eq_true c5
                  clear c5
                  by_cases c6 : (Go.bits .and .u32 x3_2 1) = 1
                  · rw [if_pos c6] at H
                    have c6b0 : ((Go.bits .and .u32 x3_2 1) == 1) = true := beq_iff_eq.mpr c6
                    have c6b1 : ((Go.bits .and .u32 x3_2 1) != 1) = false := bne_eq_false_iff_eq.mpr c6
                    clear c6
                    have H' := Aside0.mk H
                    clear H
                    go_wp2
                    go_roundg k2
                    case measure => have := HK1.out; have := HK2.out; omega
                    case rel => exact ⟨(Go.bits .xor .u32 (x3_2 / 2) 3988292384), (wrap64 (x17_2 + 1)), (by first | rfl | (simp; done) | (simp [*]; done)), (by first | rfl | (simp; done) | (simp [*]; done)), H', ⟨by have := HK1.out; have := HK2.out; omega⟩, by repeat (first | exact Drawn0.refl _ | apply Drawn0.step)⟩
                  · rw [if_neg c6] at H
                    have c6b0 : ((Go.bits .and .u32 x3_2 1) == 1) = false := beq_eq_false_iff_ne.mpr c6
                    have c6b1 : ((Go.bits .and .u32 x3_2 1) != 1) = true := bne_iff_ne.mpr c6
                    have H' := Aside0.mk H
                    clear H
                    go_wp2
                    go_roundg k2
                    case measure => have := HK1.out; have := HK2.out; omega
                    case rel => exact ⟨(x3_2 / 2), (wrap64 (x17_2 + 1)), (by first | rfl | (simp; done) | (simp [*]; done)), (by first | rfl | (simp; done) | (simp [*]; done)), H', ⟨by have := HK1.out; have := HK2.out; omega⟩, by repeat (first | exact Drawn0.refl _ | apply Drawn0.step)⟩
                · rw [if_neg c5] at H
                  have c5b0 : decide (x17_2 < 8) = false := decide_eq_false c5
                  clear c5
                  have H' := Aside0.mk H
                  clear H
                  go_wp2
                  go_roundg k2
                  case measure => have := HK1.out; have := HK2.out; omega
                  case rel => exact ⟨(x3_2), (wrap64 (x9_1 + 1)), (by first | rfl | (simp; done) | (simp [*]; done)), (by first | rfl | (simp; done) | (simp [*]; done)), H', ⟨by have := HK1.out; have := HK2.out; omega⟩, by repeat (first | exact Drawn0.refl _ | apply Drawn0.step)⟩
          · rw [if_neg c4] at H
            exact absurd H (by simp)
        · rw [if_neg c3] at H
          exact absurd H (by simp)
      · rw [if_neg c2] at H
        have c2b0 : decide (x9_1 < (l0.length : Int)) = false := decide_eq_false c2
        clear c2
        obtain rfl := Option.some.inj H
        go_wp2
        go_ret
        exact ⟨by first | rfl | (simp; done) | (simp [*]; done), by repeat (first | exact Drawn0.refl _ | apply Drawn0.step)⟩

end Go.Proofs.Ytlopmffdebhpfaa.G

/-! ## Cv -/
namespace Go.Proofs.Ytlopmffdebhpfaa.Pure
open Go.RowKit Go.Proofs.Ytlopmffdebhpfaa.G Go.Proofs.YtlopmffdebhpfaaW.PrintWords Go.Proofs.YtlopmffdebhpfaaW.PrintLast Go.Proofs.YtlopmffdebhpfaaW.PrintMore

/-- From some number of rounds on, f comes to v. -/
def Cv {α : Type} (f : Nat → Option α) (v : α) : Prop := ∃ K, ∀ k, K ≤ k → f k = some v
section
variable {α β : Type} {f : Nat → Option α} {v : α} {u : β}
theorem Cv.of {o : Option α} (h : o = some v) : Cv (fun _ => o) v := ⟨0, fun _ _ => h⟩
theorem Cv.bind {g : Nat → α → Option β} (hf : Cv f v) (hg : Cv (fun k => g k v) u) : Cv (fun k => (f k).bind (g k)) u := by
  obtain ⟨a, ha⟩ := hf
  obtain ⟨b, hb⟩ := hg
  exact ⟨max a b, fun k hk => by show (f k).bind (g k) = some u; rw [ha k (by omega), Option.bind_some]; exact hb k (by omega)⟩
theorem Cv.pos {c : Prop} [Decidable c] {g : Nat → Option α} (hc : c) (h : Cv f v) : Cv (fun k => if c then f k else g k) v := by
  obtain ⟨a, ha⟩ := h
  exact ⟨a, fun k hk => by show (if c then f k else g k) = some v; rw [if_pos hc]; exact ha k hk⟩
theorem Cv.neg {c : Prop} [Decidable c] {g : Nat → Option α} (hc : ¬ c) (h : Cv f v) : Cv (fun k => if c then g k else f k) v := by
  obtain ⟨a, ha⟩ := h
  exact ⟨a, fun k hk => by show (if c then g k else f k) = some v; rw [if_neg hc]; exact ha k hk⟩
theorem Cv.succ {g : Nat → Option α} (h : Cv f v) (hs : ∀ k, g (k + 1) = f k) : Cv g v := by
  obtain ⟨a, ha⟩ := h
  refine ⟨a + 1, fun k hk => ?_⟩
  obtain ⟨j, rfl⟩ : ∃ j, k = j + 1 := ⟨k - 1, by omega⟩
  rw [hs]
  exact ha j (by omega)
theorem Cv.from {m : Nat} (h : ∀ k, f (k + m) = some v) : Cv f v := ⟨m, fun k hk => by obtain ⟨j, rfl⟩ : ∃ j, k = j + m := ⟨k - m, by omega⟩; exact h j⟩
theorem Cv.get (h : Cv f v) : ∃ k, f k = some v := ⟨h.choose, h.choose_spec _ (Nat.le_refl _)⟩
theorem Cv.congr {g : Nat → Option α} (h : Cv f v) (e : ∀ k, g k = f k) : Cv g v := by
  have : g = f := funext e
  rw [this]
  exact h
end
/-- Bytes. -/
def By (l : List Int) : Prop := ∀ x ∈ l, 0 ≤ x ∧ x < 256
theorem wf_i64 {x : Int} (h : (Lit.int .i64 x).wf = true) : -9223372036854775808 ≤ x ∧ x ≤ 9223372036854775807 := by
  simp [Lit.wf, IntKind.min, IntKind.max, IntKind.signed, IntKind.bits] at h
  omega
theorem By.append {a b : List Int} (ha : By a) (hb : By b) : By (a ++ b) := fun x hx => by
  rcases List.mem_append.1 hx with h | h
  · exact ha x h
  · exact hb x h
theorem By.take {a : List Int} (h : By a) (n : Nat) : By (a.take n) := fun x hx => h x (List.mem_of_mem_take hx)
theorem By.drop {a : List Int} (h : By a) (n : Nat) : By (a.drop n) := fun x hx => h x (List.mem_of_mem_drop hx)
theorem By.nil : By [] := fun x hx => by cases hx
theorem By.cons {x : Int} {l : List Int} (h0 : 0 ≤ x ∧ x < 256) (h : By l) : By (x :: l) := fun y hy => by
  rcases List.mem_cons.1 hy with h1 | h1
  · rw [h1]; exact h0
  · exact h y h1
theorem rd_mid (pre r : List Int) (c : Int) : rd (pre ++ c :: r) (pre.length : Int) = c := by
  unfold rd
  rw [Int.toNat_natCast, List.getD_eq_getElem?_getD, List.getElem?_append_right (Nat.le_refl _), Nat.sub_self]
  rfl
theorem w64 {n : Int} (h0 : -9223372036854775808 ≤ n) (h1 : n ≤ 9223372036854775807) : wrap64 n = n := by unfold wrap64; omega

/-! ### exclusive or -/
/-! ### the checksum -/
def cstep (h : Nat) : Nat := if h % 2 = 1 then (h / 2) ^^^ 3988292384 else h / 2
def cstepN : Nat → Nat → Nat
  | 0, h => h
  | n + 1, h => cstepN n (cstep h)
def cbyte (h c : Nat) : Nat := cstepN 8 (h ^^^ c)
def cfold : Nat → List Int → Nat
  | h, [] => h
  | h, c :: r => cfold (cbyte h c.toNat) r
def crc (l : List Int) : Nat := cfold 4294967295 l ^^^ 4294967295
end Go.Proofs.Ytlopmffdebhpfaa.Pure

/-! ## G77 -/
namespace Go.Proofs.Ytlopmffdebhpfaa.G
open Go.RowKit Go.Proofs.YtlopmffdebhpfaaW.PrintWords Go.Proofs.YtlopmffdebhpfaaW.PrintLast Go.Proofs.YtlopmffdebhpfaaW.PrintMore
attribute [local go_sem] max2_int min2_int max_two min_two max_three min_three max_four min_four
set_option linter.unusedVariables false
set_option linter.unusedSimpArgs false

/-! ### spec_l2Num: function 77 -/
def spec_l2Num.l0 : Nat → Int → Int → List Int → Int → Option (List Int)
  | 0, _, _, _, _ => none
  | k + 1, x0, x1, x5, x6 => if x6 < x1 then (if x5.length < 140737488355328 then (spec_l2Num.l0 k (wrap64 (Int.tdiv x0 256)) x1 (x5 ++ [(Int.tmod x0 256) % 256]) (wrap64 (x6 + 1))) else (none)) else (some x5)
def spec_l2Num.f (k : Nat) (a0 : Int) (a1 : Int) : Option (List Int) := spec_l2Num.l0 k a0 a1 (([] : List Int)) 0
set_option maxRecDepth 100000 in
theorem spec_l2Num.mono_l : ∀ k, (∀ y0 y1 y2 y3, LeO (spec_l2Num.l0 k y0 y1 y2 y3) (spec_l2Num.l0 (k + 1) y0 y1 y2 y3))
  | 0 => fun _ _ _ _ r h => by simp [spec_l2Num.l0] at h
  | k + 1 => by
    have ih0 := spec_l2Num.mono_l k
    · intro y0 y1 y2 y3
      unfold spec_l2Num.l0
      repeat' first
      | (with_reducible exact ih0 _ _ _ _)
      | (with_reducible exact LeO.refl _)
      | (with_reducible exact LeO.none _)
      | (with_reducible refine LeO.ite ?_ ?_)
      | (with_reducible refine LeO.bind ?_ (fun _ => ?_))
      | exact ih0 _ _ _ _
      | exact LeO.none _
      | refine LeO.ite ?_ ?_
      | refine LeO.bind ?_ (fun _ => ?_)
set_option maxRecDepth 100000 in
theorem spec_l2Num.mono : ∀ a0 a1 k, LeO (spec_l2Num.f k a0 a1) (spec_l2Num.f (k + 1) a0 a1) := by
  intro a0 a1 k
  have ih0 := spec_l2Num.mono_l k
  unfold spec_l2Num.f
  repeat' first
      | (with_reducible exact ih0 _ _ _ _)
      | (with_reducible exact LeO.refl _)
      | (with_reducible exact LeO.none _)
      | (with_reducible refine LeO.ite ?_ ?_)
      | (with_reducible refine LeO.bind ?_ (fun _ => ?_))
      | exact ih0 _ _ _ _
      | exact LeO.none _
      | refine LeO.ite ?_ ?_
      | refine LeO.bind ?_ (fun _ => ?_)
set_option maxHeartbeats 8000000 in
set_option maxRecDepth 100000 in
theorem spec_l2Num.calls (k : Nat) (a0 : Int) (a1 : Int) (r : List Int) (w : World) (h : spec_l2Num.f k a0 a1 = some r) :
    Calls Try.prog 77 #[.int .i64 a0, .int .i64 a1] w fun e w' => ∃ v0_ : Value, e = .returned (v0_) ∧ Kd.R (Kd.int .u8) 5 w' w.heap.size (fun _ => True) v0_ r ∧ Below w.heap.size w w' := by
  have HB := Aside0.mk (Below.refl w.heap.size w)
  have H : (spec_l2Num.l0 k a0 a1 (([] : List Int)) 0) = some r := h
  clear h
  obtain ⟨y101, hy101⟩ : ∃ y_ : List Int, y_ = (([] : List Int)) := ⟨_, rfl⟩
  replace H : (spec_l2Num.l0 k a0 a1 y101 0) = some r := by first | (rw [hy101]; with_reducible exact H) | (have H2_ := (Option.bind_some _ _).symm.trans H; rw [hy101]; with_reducible exact H2_) | (have H2_ := (Option.bind_some _ _).symm.trans H; with_reducible exact H2_) | with_reducible exact H | (rw [hy101]; exact H) | exact H
  have Ny101 := Aside0.mk hy101
  clear hy101
  have H' := Aside0.mk H
  clear H
  go_enter Try.func77, Try.ntmps77
  go_wp2_with (first | ((with_reducible refine gate_dst (N := 7) rfl ?_); refine Kd.R_lit (Kd.int .u8) _ 5 ?hg (N := 7) ?hd (xs := ([] : List Int)) (inner := []) (ok := fun _ => True) (okp := fun _ => True) ?hr ?hp (fun _ hk => hk) trivial (Below.refl _ _) (Nat.le_refl _) (by simp) ?_; (case hd => rfl); (case hg => rfl); (case hr => first | (go_simp; done) | (go_simp; rfl)); (case hp => exact (Reps.none _ _)); intro v102 w3 ho4 hb hg_ hnew_; clear hg_ hnew_; (first | rw [← Ny101.out] at ho4 | (simp only [Int.reduceToNat] at ho4; rw [← Ny101.out] at ho4)); have n0_ := Aside0.mk (Kd.R_lower ho4 (below_size (by repeat (first | (with_reducible first | exact HB.out | apply below_alloc | apply pw_below_drewN | apply below_drew1) | exact HB.out)))); have n1_ := Aside0.mk (below_step (by repeat (first | (with_reducible first | exact HB.out | apply below_alloc | apply pw_below_drewN | apply below_drew1) | exact HB.out)) hb); clear HB; have HO103 := n0_; have HB := n1_; clear n0_ n1_; clear hb ho4))
  go_loopg [0, 5, 6] k (fun kq v0 v5 v6 w' => ∃ (x0_1 : Int) (x5_1 : List Int) (x6_1 : Int), v0 = .int .i64 x0_1 ∧ v6 = .int .i64 x6_1 ∧ Aside0 (spec_l2Num.l0 kq x0_1 a1 x5_1 x6_1 = some r) ∧ Aside0 (kq ≤ k) ∧ Aside0 (Kd.R (Kd.int .u8) 5 w' w.heap.size (fun _ => True) v5 x5_1) ∧ Aside0 (Below w.heap.size w w'))
  case atStart => exact ⟨(a0), (y101), (0), (by first | rfl | (simp; done) | (simp [*]; done)), (by first | rfl | (simp; done) | (simp [*]; done)), H', ⟨Nat.le_refl _⟩, ⟨by (with_reducible repeat (first | apply Kd.R_alloc | apply Kd.R_drewN | apply Kd.R_drew)); exact HO103.out⟩, ⟨by repeat (first | (with_reducible first | exact HB.out | apply below_alloc | apply pw_below_drewN | apply below_drew1) | exact HB.out)⟩⟩
  case round =>
    clear H'
    try clear p2
    obtain ⟨x0_1, x5_1, x6_1, rfl, rfl, HA, HK1, HO_5, HB⟩ := hrel
    cases gk with
    | zero => exact absurd HA.out (by simp [spec_l2Num.l0])
    | succ k1 =>
      have H := HA.out
      clear HA
      simp only [spec_l2Num.l0] at H
      by_cases c5 : x6_1 < a1
      · rw [if_pos c5] at H
        have c5b0 : decide (x6_1 < a1) = true := decide_eq_true c5
        clear c5
        by_cases c6 : x5_1.length < 140737488355328
        · rw [if_pos c6] at H
          have LMc6 := Aside0.mk c6
          clear c6
          obtain ⟨y104, hy104⟩ : ∃ y_ : List Int, y_ = (x5_1 ++ [(Int.tmod x0_1 256) % 256]) := ⟨_, rfl⟩
          replace H : (spec_l2Num.l0 k1 (wrap64 (Int.tdiv x0_1 256)) a1 y104 (wrap64 (x6_1 + 1))) = some r := by first | (rw [hy104]; with_reducible exact H) | (have H2_ := (Option.bind_some _ _).symm.trans H; rw [hy104]; with_reducible exact H2_) | (have H2_ := (Option.bind_some _ _).symm.trans H; with_reducible exact H2_) | with_reducible exact H | (rw [hy104]; exact H) | exact H
          have Ny104 := Aside0.mk hy104
          clear hy104
          have H' := Aside0.mk H
          clear H
          go_wp2_with (first | ((with_reducible refine gate_builtin (b := .append) (xs := #[.tmp 13, .tmp 17]) rfl ?_); at_builtin; refine Kd.R_append (Kd.int .u8) (w0 := w) w.heap.size rfl (.tmp 13) (.tmp 17) 22 5 (.int .u8 0) 1 rfl Try.underlying22 info5 rfl (by decide) (by omega) u5 x5_1 ((Int.tmod x0_1 256) % 256) [.int .u8 ((Int.tmod x0_1 256) % 256)] (fun _ => True) (fun _ => False) rfl rfl ?aP (fun _ hk => hk.elim) ?aF ?aO ?aB ?aS ?aL ?_; (case aP => exact rfl); (case aB => exact (by repeat (first | (with_reducible first | exact HB.out | apply below_alloc | apply pw_below_drewN | apply below_drew1) | exact HB.out))); (case aF => exact (fun _ _ => trivial)); (case aO => exact (by (with_reducible repeat (first | apply Kd.R_alloc | apply Kd.R_drewN | apply Kd.R_drew)); exact HO_5.out)); (case aS => exact (below_size (by repeat (first | (with_reducible first | exact HB.out | apply below_alloc | apply pw_below_drewN | apply below_drew1) | exact HB.out)))); (case aL => have := LMc6.out; omega); intro v105 w7 ho hb hg hat; rw [← Ny104.out] at ho; have n0_ := Aside0.mk (hb); have n1_ := Aside0.mk (ho); clear HB; clear HO_5; have HB := n0_; have HO106 := n1_; clear n0_ n1_; clear ho hb hg hat))
          go_roundg k1
          case measure => have := HK1.out; omega
          case rel => exact ⟨(wrap64 (Int.tdiv x0_1 256)), (y104), (wrap64 (x6_1 + 1)), (by first | rfl | (simp; done) | (simp [*]; done)), (by first | rfl | (simp; done) | (simp [*]; done)), H', ⟨by have := HK1.out; omega⟩, ⟨by (with_reducible repeat (first | apply Kd.R_alloc | apply Kd.R_drewN | apply Kd.R_drew)); exact HO106.out⟩, ⟨by repeat (first | (with_reducible first | exact HB.out | apply below_alloc | apply pw_below_drewN | apply below_drew1) | exact HB.out)⟩⟩
        · rw [if_neg c6] at H
          exact absurd H (by simp)
      · rw [if_neg c5] at H
        have c5b0 : decide (x6_1 < a1) = false := decide_eq_false c5
        clear c5
        obtain rfl := Option.some.inj H
        go_wp2
        go_ret
        exact ⟨_, by first | rfl | (simp [errW_none, errW_some] <;> rfl) | (simp [*, errW_none, errW_some] <;> rfl), by (with_reducible repeat (first | apply Kd.R_alloc | apply Kd.R_drewN | apply Kd.R_drew)); exact HO_5.out, by repeat (first | (with_reducible first | exact HB.out | apply below_alloc | apply pw_below_drewN | apply below_drew1) | exact HB.out)⟩

end Go.Proofs.Ytlopmffdebhpfaa.G

/-! ## G67 -/
namespace Go.Proofs.Ytlopmffdebhpfaa.G
open Go.RowKit Go.Proofs.YtlopmffdebhpfaaW.PrintWords Go.Proofs.YtlopmffdebhpfaaW.PrintLast Go.Proofs.YtlopmffdebhpfaaW.PrintMore
attribute [local go_sem] max2_int min2_int max_two min_two max_three min_three max_four min_four
set_option linter.unusedVariables false
set_option linter.unusedSimpArgs false

/-! ### spec_l2Low: function 67 -/
end Go.Proofs.Ytlopmffdebhpfaa.G

/-! ## G68 -/
namespace Go.Proofs.Ytlopmffdebhpfaa.G
open Go.RowKit Go.Proofs.YtlopmffdebhpfaaW.PrintWords Go.Proofs.YtlopmffdebhpfaaW.PrintLast Go.Proofs.YtlopmffdebhpfaaW.PrintMore
attribute [local go_sem] max2_int min2_int max_two min_two max_three min_three max_four min_four
set_option linter.unusedVariables false
set_option linter.unusedSimpArgs false

/-! ### spec_l2Same: function 68 -/
end Go.Proofs.Ytlopmffdebhpfaa.G

/-! ## G69 -/
namespace Go.Proofs.Ytlopmffdebhpfaa.G
open Go.RowKit Go.Proofs.YtlopmffdebhpfaaW.PrintWords Go.Proofs.YtlopmffdebhpfaaW.PrintLast Go.Proofs.YtlopmffdebhpfaaW.PrintMore
attribute [local go_sem] max2_int min2_int max_two min_two max_three min_three max_four min_four
set_option linter.unusedVariables false
set_option linter.unusedSimpArgs false

/-! ### spec_l1Bytes: function 69 -/
def spec_l1Bytes.f (l0 : List Int) : Option (List Int) := (some (([] : List Int) : List Int)).bind fun y148 => (if y148.length + l0.length < 140737488355328 then (some (y148 ++ l0)) else (none))
set_option maxHeartbeats 8000000 in
set_option maxRecDepth 100000 in
theorem spec_l1Bytes.calls (A0 : Option Addr) (c0 : Nat) (l0 : List Int) (r : List Int) (w : World) (hr0 : Kd.C (Kd.int .u8) w A0 l0.length l0) (hc0 : l0.length ≤ c0) (h : spec_l1Bytes.f l0 = some r) :
    Calls Try.prog 69 #[.slice A0 l0.length c0] w fun e w' => ∃ v0_ : Value, e = .returned (v0_) ∧ Kd.R (Kd.int .u8) 5 w' w.heap.size (fun _ => True) v0_ r ∧ Below w.heap.size w w' := by
  have HR0 := Aside0.mk hr0
  have HC0 := Aside0.mk hc0
  clear hr0 hc0
  have HB := Aside0.mk (Below.refl w.heap.size w)
  have H : ((some (([] : List Int) : List Int)).bind fun y148 => (if y148.length + l0.length < 140737488355328 then (some (y148 ++ l0)) else (none))) = some r := h
  clear h
  obtain ⟨y148, hy148⟩ : ∃ y_ : List Int, y_ = (([] : List Int)) := ⟨_, rfl⟩
  replace H : (if y148.length + l0.length < 140737488355328 then (some (y148 ++ l0)) else (none)) = some r := by first | (rw [hy148]; with_reducible exact H) | (have H2_ := (Option.bind_some _ _).symm.trans H; rw [hy148]; with_reducible exact H2_) | (have H2_ := (Option.bind_some _ _).symm.trans H; with_reducible exact H2_) | with_reducible exact H | (rw [hy148]; exact H) | exact H
  have Ny148 := Aside0.mk hy148
  clear hy148
  by_cases c2 : y148.length + l0.length < 140737488355328
  · rw [if_pos c2] at H
    have LMc2 := Aside0.mk c2
    clear c2
    obtain ⟨y151, hy151⟩ : ∃ y_ : List Int, y_ = (y148 ++ l0) := ⟨_, rfl⟩
    replace H : (some y151) = some r := by first | (rw [hy151]; with_reducible exact H) | (have H2_ := (Option.bind_some _ _).symm.trans H; rw [hy151]; with_reducible exact H2_) | (have H2_ := (Option.bind_some _ _).symm.trans H; with_reducible exact H2_) | with_reducible exact H | (rw [hy151]; exact H) | exact H
    have Ny151 := Aside0.mk hy151
    clear hy151
    obtain rfl := Option.some.inj H
    go_enter Try.func69, Try.ntmps69
    go_wp2_with (first | ((with_reducible refine gate_dst (N := 4) rfl ?_); refine Kd.R_lit (Kd.int .u8) _ 5 ?hg (N := 4) ?hd (xs := ([] : List Int)) (inner := []) (ok := fun _ => True) (okp := fun _ => True) ?hr ?hp (fun _ hk => hk) trivial (Below.refl _ _) (Nat.le_refl _) (by simp) ?_; (case hd => rfl); (case hg => rfl); (case hr => first | (go_simp; done) | (go_simp; rfl)); (case hp => exact (Reps.none _ _)); intro v149 w3 ho4 hb hg_ hnew_; clear hg_ hnew_; (first | rw [← Ny148.out] at ho4 | (simp only [Int.reduceToNat] at ho4; rw [← Ny148.out] at ho4)); have n0_ := Aside0.mk (Kd.R_lower ho4 (below_size (by repeat (first | (with_reducible first | exact HB.out | apply below_alloc | apply pw_below_drewN | apply below_drew1) | exact HB.out)))); have n1_ := Aside0.mk (below_step (by repeat (first | (with_reducible first | exact HB.out | apply below_alloc | apply pw_below_drewN | apply below_drew1) | exact HB.out)) hb); clear HB; have HO150 := n0_; have HB := n1_; clear n0_ n1_; clear hb ho4) | ((with_reducible refine gate_builtin (b := .append) (xs := #[.tmp 5, .tmp 6]) rfl ?_); at_builtin; refine Kd.R_append_rows (Kd.int .u8) (w0 := w) w.heap.size rfl (.tmp 5) (.tmp 6) 22 5 (.int .u8 0) 1 rfl Try.underlying22 info5 rfl (by decide) (by omega) v149 y148 l0 _ _ _ (fun _ => True) (fun _ => False) rfl rfl ?aO ?aR (fun _ _ h => h) (fun _ h => h.elim) ?aF ?aB ?aS ?aL ?_; (case aR => repeat (first | exact (Kd.C_below HR0.out HB.out) | (with_reducible refine Kd.C_alloc ?_ _) | (with_reducible refine Kd.C_drewN ?_ _) | (with_reducible refine Kd.C_drew ?_))); (case aB => exact (by repeat (first | (with_reducible first | exact HB.out | apply below_alloc | apply pw_below_drewN | apply below_drew1) | exact HB.out))); (case aF => exact (fun _ _ => trivial)); (case aO => exact (by (with_reducible repeat (first | apply Kd.R_alloc | apply Kd.R_drewN | apply Kd.R_drew)); exact HO150.out)); (case aS => exact (below_size (by repeat (first | (with_reducible first | exact HB.out | apply below_alloc | apply pw_below_drewN | apply below_drew1) | exact HB.out)))); (case aL => have := LMc2.out; omega); intro v152 w5 ho hb hg hat; rw [← Ny151.out] at ho; have n0_ := Aside0.mk (hb); have n1_ := Aside0.mk (ho); clear HB; clear HO150; have HB := n0_; have HO153 := n1_; clear n0_ n1_; clear ho hb hg hat))
    go_ret
    exact ⟨_, by first | rfl | (simp [errW_none, errW_some] <;> rfl) | (simp [*, errW_none, errW_some] <;> rfl), by (with_reducible repeat (first | apply Kd.R_alloc | apply Kd.R_drewN | apply Kd.R_drew)); exact HO153.out, by repeat (first | (with_reducible first | exact HB.out | apply below_alloc | apply pw_below_drewN | apply below_drew1) | exact HB.out)⟩
  · rw [if_neg c2] at H
    exact absurd H (by simp)

end Go.Proofs.Ytlopmffdebhpfaa.G

/-! ## G21 -/
namespace Go.Proofs.Ytlopmffdebhpfaa.G
open Go.RowKit Go.Proofs.YtlopmffdebhpfaaW.PrintWords Go.Proofs.YtlopmffdebhpfaaW.PrintLast Go.Proofs.YtlopmffdebhpfaaW.PrintMore
attribute [local go_sem] max2_int min2_int max_two min_two max_three min_three max_four min_four
set_option linter.unusedVariables false
set_option linter.unusedSimpArgs false

/-! ### spec_EncodePage: function 21 -/
mutual
def spec_EncodePage.j0 : Nat → Int → Int → List Int → Bool → Option (List Int × Bool)
  | 0, _, _, _, _ => none
  | k + 1, x0, x1, x2, x27 => if x27 = true then (some ((([] : List Int)), false)) else ((spec_l2Num.f k x0 4).bind fun t111 => ((some (([(x1) % 256, 0] : List Int) : List Int)).bind fun y114 => (if t111.length + y114.length < 140737488355328 then ((some (t111 ++ y114 : List Int)).bind fun y117 => ((spec_l2Num.f k (x2.length : Int) 2).bind fun t120 => (if y117.length + t120.length < 140737488355328 then ((some (y117 ++ t120 : List Int)).bind fun y123 => ((some (([0, 0, 0, 0] : List Int) : List Int)).bind fun y126 => (if y123.length + y126.length < 140737488355328 then ((some (y123 ++ y126 : List Int)).bind fun y129 => (if y129.length + x2.length < 140737488355328 then (spec_EncodePage.l0 k (y129 ++ x2)) else (none))) else (none)))) else (none)))) else (none))))
def spec_EncodePage.l0 : Nat → List Int → Option (List Int × Bool)
  | 0, _ => none
  | k + 1, x8 => if (x8.length : Int) < 252 then (if x8.length < 140737488355328 then (spec_EncodePage.l0 k (x8 ++ [0])) else (none)) else ((spec_Crc32.f k x8).bind fun t138 => ((spec_l2Num.f k t138 4).bind fun t139 => (if t139.length + x8.length < 140737488355328 then (some ((t139 ++ x8), true)) else (none))))
end
def spec_EncodePage.f (k : Nat) (a0 : Int) (a1 : Int) (l2 : List Int) : Option (List Int × Bool) := if a0 < 0 then (spec_EncodePage.j0 k a0 a1 l2 true) else (if a0 > 1023 then (spec_EncodePage.j0 k a0 a1 l2 true) else (if a1 < 1 then (spec_EncodePage.j0 k a0 a1 l2 true) else (if a1 > 4 then (spec_EncodePage.j0 k a0 a1 l2 true) else (spec_EncodePage.j0 k a0 a1 l2 (decide ((l2.length : Int) > 240))))))
set_option maxRecDepth 100000 in
theorem spec_EncodePage.mono_l : ∀ k, (∀ y0 y1 y2 y3, LeO (spec_EncodePage.j0 k y0 y1 y2 y3) (spec_EncodePage.j0 (k + 1) y0 y1 y2 y3)) ∧ (∀ y0, LeO (spec_EncodePage.l0 k y0) (spec_EncodePage.l0 (k + 1) y0))
  | 0 => ⟨fun _ _ _ _ r h => by simp [spec_EncodePage.j0] at h, fun _ r h => by unfold spec_EncodePage.l0 at h; cases h⟩
  | k + 1 => by
    obtain ⟨ih0, ih1⟩ := spec_EncodePage.mono_l k
    refine ⟨?_, ?_⟩
    · intro y0 y1 y2 y3
      unfold spec_EncodePage.j0
      repeat' first
      | (with_reducible exact ih0 _ _ _ _)
      | (with_reducible exact ih1 _)
      | (with_reducible exact spec_Crc32.mono _ _)
      | (with_reducible exact spec_l2Num.mono _ _ _)
      | (with_reducible exact LeO.refl _)
      | (with_reducible exact LeO.none _)
      | (with_reducible refine LeO.ite ?_ ?_)
      | (with_reducible refine LeO.bind ?_ (fun _ => ?_))
      | exact ih0 _ _ _ _
      | exact ih1 _
      | exact spec_Crc32.mono _ _
      | exact spec_l2Num.mono _ _ _
      | exact LeO.none _
      | refine LeO.ite ?_ ?_
      | refine LeO.bind ?_ (fun _ => ?_)
    · intro y0
      unfold spec_EncodePage.l0
      repeat' first
      | (with_reducible exact ih0 _ _ _ _)
      | (with_reducible exact ih1 _)
      | (with_reducible exact spec_Crc32.mono _ _)
      | (with_reducible exact spec_l2Num.mono _ _ _)
      | (with_reducible exact LeO.refl _)
      | (with_reducible exact LeO.none _)
      | (with_reducible refine LeO.ite ?_ ?_)
      | (with_reducible refine LeO.bind ?_ (fun _ => ?_))
      | exact ih0 _ _ _ _
      | exact ih1 _
      | exact spec_Crc32.mono _ _
      | exact spec_l2Num.mono _ _ _
      | exact LeO.none _
      | refine LeO.ite ?_ ?_
      | refine LeO.bind ?_ (fun _ => ?_)
set_option maxRecDepth 100000 in
theorem spec_EncodePage.mono : ∀ a0 a1 a2 k, LeO (spec_EncodePage.f k a0 a1 a2) (spec_EncodePage.f (k + 1) a0 a1 a2) := by
  intro a0 a1 a2 k
  obtain ⟨ih0, ih1⟩ := spec_EncodePage.mono_l k
  unfold spec_EncodePage.f
  repeat' first
      | (with_reducible exact ih0 _ _ _ _)
      | (with_reducible exact ih1 _)
      | (with_reducible exact spec_Crc32.mono _ _)
      | (with_reducible exact spec_l2Num.mono _ _ _)
      | (with_reducible exact LeO.refl _)
      | (with_reducible exact LeO.none _)
      | (with_reducible refine LeO.ite ?_ ?_)
      | (with_reducible refine LeO.bind ?_ (fun _ => ?_))
      | exact ih0 _ _ _ _
      | exact ih1 _
      | exact spec_Crc32.mono _ _
      | exact spec_l2Num.mono _ _ _
      | exact LeO.none _
      | refine LeO.ite ?_ ?_
      | refine LeO.bind ?_ (fun _ => ?_)
set_option maxHeartbeats 8000000 in
set_option maxRecDepth 100000 in
theorem spec_EncodePage.calls (k : Nat) (a0 : Int) (a1 : Int) (A2 : Option Addr) (c2 : Nat) (l2 : List Int) (r1 : List Int) (r2 : Bool) (w : World) (hr2 : Kd.C (Kd.int .u8) w A2 l2.length l2) (hc2 : l2.length ≤ c2) (h : spec_EncodePage.f k a0 a1 l2 = some (r1, r2)) :
    Calls Try.prog 21 #[.int .i64 a0, .int .i64 a1, .slice A2 l2.length c2] w fun e w' => ∃ v0_ : Value, e = .returned (.tuple #[v0_, .bool r2]) ∧ Kd.R (Kd.int .u8) 5 w' w.heap.size (fun _ => True) v0_ r1 ∧ Below w.heap.size w w' := by
  have HR2 := Aside0.mk hr2
  have HC2 := Aside0.mk hc2
  clear hr2 hc2
  have HB := Aside0.mk (Below.refl w.heap.size w)
  have H : (if a0 < 0 then (spec_EncodePage.j0 k a0 a1 l2 true) else (if a0 > 1023 then (spec_EncodePage.j0 k a0 a1 l2 true) else (if a1 < 1 then (spec_EncodePage.j0 k a0 a1 l2 true) else (if a1 > 4 then (spec_EncodePage.j0 k a0 a1 l2 true) else (spec_EncodePage.j0 k a0 a1 l2 (decide ((l2.length : Int) > 240))))))) = some (r1, r2) := h
  clear h
  have HC4 := Aside0.mk H
  clear H
  go_enter Try.func21, Try.ntmps21
  go_upto_region 1 with (fail)
  go_cut [27] (fun v27 wc => ∃ (kq : Nat) (x27_3 : Bool), v27 = .bool x27_3 ∧ Aside0 (spec_EncodePage.j0 kq a0 a1 l2 x27_3 = some (r1, r2)) ∧ Aside0 (kq ≤ k) ∧ Aside0 (Below w.heap.size w wc))
  case first =>
    have H := HC4.out
    clear HC4
    by_cases c5 : a0 < 0
    · rw [if_pos c5] at H
      have c5b0 : decide (a0 < 0) = true := decide_eq_true c5
      clear c5
      (first | rw [c5b0] | (simp only [i64_w, i32_w]; rw [c5b0]) | skip)
      have H' := Aside0.mk H
      clear H
      go_wp2
      go_meet
      case rel => exact ⟨_, (true), (by first | rfl | (simp; done) | (simp [*]; done)), H', ⟨by first | omega | exact Nat.le_refl _⟩, ⟨by repeat (first | (with_reducible first | exact HB.out | apply below_alloc | apply pw_below_drewN | apply below_drew1) | exact HB.out)⟩⟩
    · rw [if_neg c5] at H
      have c5b0 : decide (a0 < 0) = false := decide_eq_false c5
      clear c5
      (first | rw [c5b0] | (simp only [i64_w, i32_w]; rw [c5b0]) | skip)
      by_cases c6 : a0 > 1023
      · rw [if_pos c6] at H
        have c6b0 : decide (1023 < a0) = true := decide_eq_true c6
        clear c6
        have H' := Aside0.mk H
        clear H
        go_wp2
        go_meet
        case rel => exact ⟨_, (true), (by first | rfl | (simp; done) | (simp [*]; done)), H', ⟨by first | omega | exact Nat.le_refl _⟩, ⟨by repeat (first | (with_reducible first | exact HB.out | apply below_alloc | apply pw_below_drewN | apply below_drew1) | exact HB.out)⟩⟩
      · rw [if_neg c6] at H
        have c6b0 : decide (1023 < a0) = false := decide_eq_false c6
        clear c6
        by_cases c7 : a1 < 1
        · rw [if_pos c7] at H
          have c7b0 : decide (a1 < 1) = true := decide_eq_true c7
          clear c7
          have H' := Aside0.mk H
          clear H
          go_wp2
          go_meet
          case rel => exact ⟨_, (true), (by first | rfl | (simp; done) | (simp [*]; done)), H', ⟨by first | omega | exact Nat.le_refl _⟩, ⟨by repeat (first | (with_reducible first | exact HB.out | apply below_alloc | apply pw_below_drewN | apply below_drew1) | exact HB.out)⟩⟩
        · rw [if_neg c7] at H
          have c7b0 : decide (a1 < 1) = false := decide_eq_false c7
          clear c7
          by_cases c8 : a1 > 4
          · rw [if_pos c8] at H
            have c8b0 : decide (4 < a1) = true := decide_eq_true c8
            clear c8
            have H' := Aside0.mk H
            clear H
            go_wp2
            go_meet
            case rel => exact ⟨_, (true), (by first | rfl | (simp; done) | (simp [*]; done)), H', ⟨by first | omega | exact Nat.le_refl _⟩, ⟨by repeat (first | (with_reducible first | exact HB.out | apply below_alloc | apply pw_below_drewN | apply below_drew1) | exact HB.out)⟩⟩
          · rw [if_neg c8] at H
            have c8b0 : decide (4 < a1) = false := decide_eq_false c8
            clear c8
            have H' := Aside0.mk H
            clear H
            go_wp2
            go_meet
            case rel => exact ⟨_, (decide ((l2.length : Int) > 240)), (by first | rfl | (simp; done) | (simp [*]; done)), H', ⟨by first | omega | exact Nat.le_refl _⟩, ⟨by repeat (first | (with_reducible first | exact HB.out | apply below_alloc | apply pw_below_drewN | apply below_drew1) | exact HB.out)⟩⟩
  case rest =>
    clear HC4
    try clear c2
    try clear p2
    try clear c5
    try clear c5b0
    try clear c6
    try clear c6b0
    try clear c7
    try clear c7b0
    try clear c8
    try clear c8b0
    obtain ⟨kq, x27_3, rfl, HA, HJ3, HB⟩ := hcut
    cases kq with
    | zero => exact absurd HA.out (by simp [spec_EncodePage.j0])
    | succ kj3 =>
      have H := HA.out
      clear HA
      simp only [spec_EncodePage.j0] at H
      by_cases c9 : x27_3 = true
      · subst c9
        have H1 : (some ((([] : List Int)), false)) = some (r1, r2) := by rw [if_pos rfl] at H; exact H
        clear H
        have H := H1
        clear H1
        obtain ⟨y108, hy108⟩ : ∃ y_ : List Int, y_ = (([] : List Int)) := ⟨_, rfl⟩
        replace H : (some (y108, false)) = some (r1, r2) := by first | (rw [hy108]; with_reducible exact H) | (have H2_ := (Option.bind_some _ _).symm.trans H; rw [hy108]; with_reducible exact H2_) | (have H2_ := (Option.bind_some _ _).symm.trans H; with_reducible exact H2_) | with_reducible exact H | (rw [hy108]; exact H) | exact H
        have Ny108 := Aside0.mk hy108
        clear hy108
        simp only [Option.some.injEq, Prod.mk.injEq] at H
        obtain ⟨rfl, rfl⟩ := H
        go_wp2_with (first | ((with_reducible refine gate_dst (N := 28) rfl ?_); (try (refine gate_guard (by rfl) ?_; dsimp only)); refine Kd.R_lit (Kd.int .u8) _ 5 ?hg (N := 28) ?hd (xs := ([] : List Int)) (inner := []) (ok := fun _ => True) (okp := fun _ => True) ?hr ?hp (fun _ hk => hk) trivial (Below.refl _ _) (Nat.le_refl _) (by simp) ?_; (case hd => rfl); (case hg => rfl); (case hr => first | (go_simp; done) | (go_simp; rfl)); (case hp => exact (Reps.none _ _)); intro v109 w10 ho11 hb hg_ hnew_; clear hg_ hnew_; (first | rw [← Ny108.out] at ho11 | (simp only [Int.reduceToNat] at ho11; rw [← Ny108.out] at ho11)); have n0_ := Aside0.mk (Kd.R_lower ho11 (below_size (by repeat (first | (with_reducible first | exact HB.out | apply below_alloc | apply pw_below_drewN | apply below_drew1) | exact HB.out)))); have n1_ := Aside0.mk (below_step (by repeat (first | (with_reducible first | exact HB.out | apply below_alloc | apply pw_below_drewN | apply below_drew1) | exact HB.out)) hb); clear HB; have HO110 := n0_; have HB := n1_; clear n0_ n1_; clear hb ho11))
        go_ret2
        exact ⟨_, by first | rfl | (simp [errW_none, errW_some] <;> rfl) | (simp [*, errW_none, errW_some] <;> rfl), by (with_reducible repeat (first | apply Kd.R_alloc | apply Kd.R_drewN | apply Kd.R_drew)); exact HO110.out, by repeat (first | (with_reducible first | exact HB.out | apply below_alloc | apply pw_below_drewN | apply below_drew1) | exact HB.out)⟩
      · replace c9 := Bool.eq_false_iff.mpr c9
        subst c9
        have H1 : ((spec_l2Num.f kj3 a0 4).bind fun t111 => ((some (([(a1) % 256, 0] : List Int) : List Int)).bind fun y114 => (if t111.length + y114.length < 140737488355328 then ((some (t111 ++ y114 : List Int)).bind fun y117 => ((spec_l2Num.f kj3 (l2.length : Int) 2).bind fun t120 => (if y117.length + t120.length < 140737488355328 then ((some (y117 ++ t120 : List Int)).bind fun y123 => ((some (([0, 0, 0, 0] : List Int) : List Int)).bind fun y126 => (if y123.length + y126.length < 140737488355328 then ((some (y123 ++ y126 : List Int)).bind fun y129 => (if y129.length + l2.length < 140737488355328 then (spec_EncodePage.l0 kj3 (y129 ++ l2)) else (none))) else (none)))) else (none)))) else (none)))) = some (r1, r2) := by rw [if_neg (show ¬ (false = true) by decide)] at H; exact H
        clear H
        have H := H1
        clear H1
        replace H := Option.bind_eq_some_iff.mp H
        obtain ⟨t111, A120, H⟩ := H
        replace H : ((some (([(a1) % 256, 0] : List Int) : List Int)).bind fun y114 => (if t111.length + y114.length < 140737488355328 then ((some (t111 ++ y114 : List Int)).bind fun y117 => ((spec_l2Num.f kj3 (l2.length : Int) 2).bind fun t120 => (if y117.length + t120.length < 140737488355328 then ((some (y117 ++ t120 : List Int)).bind fun y123 => ((some (([0, 0, 0, 0] : List Int) : List Int)).bind fun y126 => (if y123.length + y126.length < 140737488355328 then ((some (y123 ++ y126 : List Int)).bind fun y129 => (if y129.length + l2.length < 140737488355328 then (spec_EncodePage.l0 kj3 (y129 ++ l2)) else (none))) else (none)))) else (none)))) else (none))) = some (r1, r2) := H
        have A12 := Aside0.mk A120
        clear A120
        obtain ⟨y114, hy114⟩ : ∃ y_ : List Int, y_ = (([(a1) % 256, 0] : List Int)) := ⟨_, rfl⟩
        replace H : (if t111.length + y114.length < 140737488355328 then ((some (t111 ++ y114 : List Int)).bind fun y117 => ((spec_l2Num.f kj3 (l2.length : Int) 2).bind fun t120 => (if y117.length + t120.length < 140737488355328 then ((some (y117 ++ t120 : List Int)).bind fun y123 => ((some (([0, 0, 0, 0] : List Int) : List Int)).bind fun y126 => (if y123.length + y126.length < 140737488355328 then ((some (y123 ++ y126 : List Int)).bind fun y129 => (if y129.length + l2.length < 140737488355328 then (spec_EncodePage.l0 kj3 (y129 ++ l2)) else (none))) else (none)))) else (none)))) else (none)) = some (r1, r2) := by first | (rw [hy114]; with_reducible exact H) | (have H2_ := (Option.bind_some _ _).symm.trans H; rw [hy114]; with_reducible exact H2_) | (have H2_ := (Option.bind_some _ _).symm.trans H; with_reducible exact H2_) | with_reducible exact H | (rw [hy114]; exact H) | exact H
        have Ny114 := Aside0.mk hy114
        clear hy114
        by_cases c13 : t111.length + y114.length < 140737488355328
        · rw [if_pos c13] at H
          have LMc13 := Aside0.mk c13
          clear c13
          obtain ⟨y117, hy117⟩ : ∃ y_ : List Int, y_ = (t111 ++ y114) := ⟨_, rfl⟩
          replace H : ((spec_l2Num.f kj3 (l2.length : Int) 2).bind fun t120 => (if y117.length + t120.length < 140737488355328 then ((some (y117 ++ t120 : List Int)).bind fun y123 => ((some (([0, 0, 0, 0] : List Int) : List Int)).bind fun y126 => (if y123.length + y126.length < 140737488355328 then ((some (y123 ++ y126 : List Int)).bind fun y129 => (if y129.length + l2.length < 140737488355328 then (spec_EncodePage.l0 kj3 (y129 ++ l2)) else (none))) else (none)))) else (none))) = some (r1, r2) := by first | (rw [hy117]; with_reducible exact H) | (have H2_ := (Option.bind_some _ _).symm.trans H; rw [hy117]; with_reducible exact H2_) | (have H2_ := (Option.bind_some _ _).symm.trans H; with_reducible exact H2_) | with_reducible exact H | (rw [hy117]; exact H) | exact H
          have Ny117 := Aside0.mk hy117
          clear hy117
          replace H := Option.bind_eq_some_iff.mp H
          obtain ⟨t120, A140, H⟩ := H
          replace H : (if y117.length + t120.length < 140737488355328 then ((some (y117 ++ t120 : List Int)).bind fun y123 => ((some (([0, 0, 0, 0] : List Int) : List Int)).bind fun y126 => (if y123.length + y126.length < 140737488355328 then ((some (y123 ++ y126 : List Int)).bind fun y129 => (if y129.length + l2.length < 140737488355328 then (spec_EncodePage.l0 kj3 (y129 ++ l2)) else (none))) else (none)))) else (none)) = some (r1, r2) := H
          have A14 := Aside0.mk A140
          clear A140
          by_cases c15 : y117.length + t120.length < 140737488355328
          · rw [if_pos c15] at H
            have LMc15 := Aside0.mk c15
            clear c15
            obtain ⟨y123, hy123⟩ : ∃ y_ : List Int, y_ = (y117 ++ t120) := ⟨_, rfl⟩
            replace H : ((some (([0, 0, 0, 0] : List Int) : List Int)).bind fun y126 => (if y123.length + y126.length < 140737488355328 then ((some (y123 ++ y126 : List Int)).bind fun y129 => (if y129.length + l2.length < 140737488355328 then (spec_EncodePage.l0 kj3 (y129 ++ l2)) else (none))) else (none))) = some (r1, r2) := by first | (rw [hy123]; with_reducible exact H) | (have H2_ := (Option.bind_some _ _).symm.trans H; rw [hy123]; with_reducible exact H2_) | (have H2_ := (Option.bind_some _ _).symm.trans H; with_reducible exact H2_) | with_reducible exact H | (rw [hy123]; exact H) | exact H
            have Ny123 := Aside0.mk hy123
            clear hy123
            obtain ⟨y126, hy126⟩ : ∃ y_ : List Int, y_ = (([0, 0, 0, 0] : List Int)) := ⟨_, rfl⟩
            replace H : (if y123.length + y126.length < 140737488355328 then ((some (y123 ++ y126 : List Int)).bind fun y129 => (if y129.length + l2.length < 140737488355328 then (spec_EncodePage.l0 kj3 (y129 ++ l2)) else (none))) else (none)) = some (r1, r2) := by first | (rw [hy126]; with_reducible exact H) | (have H2_ := (Option.bind_some _ _).symm.trans H; rw [hy126]; with_reducible exact H2_) | (have H2_ := (Option.bind_some _ _).symm.trans H; with_reducible exact H2_) | with_reducible exact H | (rw [hy126]; exact H) | exact H
            have Ny126 := Aside0.mk hy126
            clear hy126
            by_cases c16 : y123.length + y126.length < 140737488355328
            · rw [if_pos c16] at H
              have LMc16 := Aside0.mk c16
              clear c16
              obtain ⟨y129, hy129⟩ : ∃ y_ : List Int, y_ = (y123 ++ y126) := ⟨_, rfl⟩
              replace H : (if y129.length + l2.length < 140737488355328 then (spec_EncodePage.l0 kj3 (y129 ++ l2)) else (none)) = some (r1, r2) := by first | (rw [hy129]; with_reducible exact H) | (have H2_ := (Option.bind_some _ _).symm.trans H; rw [hy129]; with_reducible exact H2_) | (have H2_ := (Option.bind_some _ _).symm.trans H; with_reducible exact H2_) | with_reducible exact H | (rw [hy129]; exact H) | exact H
              have Ny129 := Aside0.mk hy129
              clear hy129
              by_cases c17 : y129.length + l2.length < 140737488355328
              · rw [if_pos c17] at H
                have LMc17 := Aside0.mk c17
                clear c17
                obtain ⟨y132, hy132⟩ : ∃ y_ : List Int, y_ = (y129 ++ l2) := ⟨_, rfl⟩
                replace H : (spec_EncodePage.l0 kj3 y132) = some (r1, r2) := by first | (rw [hy132]; with_reducible exact H) | (have H2_ := (Option.bind_some _ _).symm.trans H; rw [hy132]; with_reducible exact H2_) | (have H2_ := (Option.bind_some _ _).symm.trans H; with_reducible exact H2_) | with_reducible exact H | (rw [hy132]; exact H) | exact H
                have Ny132 := Aside0.mk hy132
                clear hy132
                have H' := Aside0.mk H
                clear H
                go_wp2_with (first | ((with_reducible refine gate_callee (f := 77) rfl ?_); refine goesL_ (some 30) rfl rfl Try.func77 (by kernel_rfl) rfl #[.int .i64 a0, .int .i64 4] rfl (by (try simp only [List.map_toArray, List.map_cons, List.map_nil]); first | done | rfl | (simp only [List.length_drop, List.length_take]; rfl)) ?_; (with_reducible refine (spec_l2Num.calls kj3 a0 4 t111 _ A12.out).mono ?_); rintro e w18 ⟨v112, rfl, ho0, hb⟩; refine ⟨_, rfl, ?_⟩; have n0_ := Aside0.mk (Kd.R_lower ho0 (below_size (by repeat (first | (with_reducible first | exact HB.out | apply below_alloc | apply pw_below_drewN | apply below_drew1) | exact HB.out)))); have n1_ := Aside0.mk (below_step (by repeat (first | (with_reducible first | exact HB.out | apply below_alloc | apply pw_below_drewN | apply below_drew1) | exact HB.out)) hb); clear HB; have HO113 := n0_; have HB := n1_; clear n0_ n1_; (try clear hb); (try clear hb2); (try clear hk); (try clear hi); (try clear ho0)) | ((with_reducible refine gate_dst (N := 33) rfl ?_); (try (refine gate_guard (by rfl) ?_; dsimp only)); refine Kd.R_lit (Kd.int .u8) _ 5 ?hg (N := 33) ?hd (xs := ([(a1) % 256, 0] : List Int)) (inner := [.int .u8 ((a1) % 256), .int .u8 0]) (ok := fun _ => True) (okp := fun _ => True) ?hr ?hp (fun _ hk => hk) trivial (Below.refl _ _) (Nat.le_refl _) (by simp) ?_; (case hd => rfl); (case hg => rfl); (case hr => first | (go_simp; done) | (go_simp; rfl)); (case hp => exact (Reps.one (show Kd.M (Kd.int .u8) _ _ _ ((a1) % 256) [.int .u8 ((a1) % 256)] from rfl) (Reps.one (show Kd.M (Kd.int .u8) _ _ _ 0 [.int .u8 0] from rfl) (Reps.none _ _)))); intro v115 w19 ho20 hb hg_ hnew_; clear hg_ hnew_; (first | rw [← Ny114.out] at ho20 | (simp only [Int.reduceToNat] at ho20; rw [← Ny114.out] at ho20)); have n0_ := Aside0.mk (Kd.R_elder' (by (with_reducible repeat (first | apply Kd.R_alloc | apply Kd.R_drewN | apply Kd.R_drew)); exact HO113.out) (Kd.R_base ho20) hb); have n1_ := Aside0.mk (Kd.R_lower (Kd.R_new' ho20 (Kd.R_lt (by (with_reducible repeat (first | apply Kd.R_alloc | apply Kd.R_drewN | apply Kd.R_drew)); exact HO113.out))) (below_size (by repeat (first | (with_reducible first | exact HB.out | apply below_alloc | apply pw_below_drewN | apply below_drew1) | exact HB.out)))); have n2_ := Aside0.mk (below_step (by repeat (first | (with_reducible first | exact HB.out | apply below_alloc | apply pw_below_drewN | apply below_drew1) | exact HB.out)) hb); clear HO113; clear HB; have HO113 := n0_; have HO116 := n1_; have HB := n2_; clear n0_ n1_ n2_; clear hb ho20; obtain ⟨Ao22, co22, eo22⟩ := Kd.R_slice HO116.out; subst eo22) | ((with_reducible refine gate_builtin (b := .append) (xs := #[.tmp 30, .tmp 33]) rfl ?_); (try (refine gate_guard (by rfl) ?_; dsimp only)); at_builtin; refine Kd.R_append_rows (Kd.int .u8) (w0 := w) w.heap.size rfl (.tmp 30) (.tmp 33) 22 5 (.int .u8 0) 1 rfl Try.underlying22 info5 rfl (by decide) (by omega) v112 t111 y114 _ _ _ (fun k_ => some k_ ≠ (.slice Ao22 y114.length co22 : Value).ownBlock) (fun _ => False) rfl rfl ?aO ?aR (fun _ _ h => h) (fun _ h => h.elim) ?aF ?aB ?aS ?aL ?_; (case aR => repeat (first | exact (Kd.R_reads' HO116.out).2.2 | (with_reducible refine Kd.C_alloc ?_ _) | (with_reducible refine Kd.C_drewN ?_ _) | (with_reducible refine Kd.C_drew ?_))); (case aB => exact (by repeat (first | (with_reducible first | exact HB.out | apply below_alloc | apply pw_below_drewN | apply below_drew1) | exact HB.out))); (case aF => exact (fun k_ hk => Kd.fresh' (Kd.R_lt (by (with_reducible repeat (first | apply Kd.R_alloc | apply Kd.R_drewN | apply Kd.R_drew)); exact HO116.out)) k_ hk)); (case aO => exact (by (with_reducible repeat (first | apply Kd.R_alloc | apply Kd.R_drewN | apply Kd.R_drew)); exact Kd.R_mono HO113.out (fun _ hk => hk.2))); (case aS => exact (below_size (by repeat (first | (with_reducible first | exact HB.out | apply below_alloc | apply pw_below_drewN | apply below_drew1) | exact HB.out)))); (case aL => have := LMc13.out; omega); intro v118 w21 ho hb hg hat; rw [← Ny117.out] at ho; have n0_ := Aside0.mk (Kd.R_after (ok := (fun _ => True)) (by (with_reducible repeat (first | apply Kd.R_alloc | apply Kd.R_drewN | apply Kd.R_drew)); exact HO116.out) hg hat); have n1_ := Aside0.mk (hb); have n2_ := Aside0.mk (ho); clear HO116; clear HB; clear HO113; have HO116 := n0_; have HB := n1_; have HO119 := n2_; clear n0_ n1_ n2_; clear ho hb hg hat) | ((with_reducible refine gate_callee (f := 77) rfl ?_); refine goesL_ (some 38) rfl rfl Try.func77 (by kernel_rfl) rfl #[.int .i64 (l2.length : Int), .int .i64 2] rfl (by (try simp only [List.map_toArray, List.map_cons, List.map_nil]); first | done | rfl | (simp only [List.length_drop, List.length_take]; rfl)) ?_; (with_reducible refine (spec_l2Num.calls kj3 (l2.length : Int) 2 t120 _ A14.out).mono ?_); rintro e w23 ⟨v121, rfl, ho0, hb⟩; refine ⟨_, rfl, ?_⟩; have n0_ := Aside0.mk (Kd.R_elder' (by (with_reducible repeat (first | apply Kd.R_alloc | apply Kd.R_drewN | apply Kd.R_drew)); exact HO116.out) (Kd.R_base ho0) hb); have n1_ := Aside0.mk (Kd.R_elder' (by (with_reducible repeat (first | apply Kd.R_alloc | apply Kd.R_drewN | apply Kd.R_drew)); exact HO119.out) (Kd.R_base ho0) hb); have n2_ := Aside0.mk (Kd.R_lower (Kd.R_new' (Kd.R_new' ho0 (Kd.R_lt (by (with_reducible repeat (first | apply Kd.R_alloc | apply Kd.R_drewN | apply Kd.R_drew)); exact HO116.out))) (Kd.R_lt (by (with_reducible repeat (first | apply Kd.R_alloc | apply Kd.R_drewN | apply Kd.R_drew)); exact HO119.out))) (below_size (by repeat (first | (with_reducible first | exact HB.out | apply below_alloc | apply pw_below_drewN | apply below_drew1) | exact HB.out)))); have n3_ := Aside0.mk (below_step (by repeat (first | (with_reducible first | exact HB.out | apply below_alloc | apply pw_below_drewN | apply below_drew1) | exact HB.out)) hb); clear HO116; clear HO119; clear HB; have HO116 := n0_; have HO119 := n1_; have HO122 := n2_; have HB := n3_; clear n0_ n1_ n2_ n3_; (try clear hb); (try clear hb2); (try clear hk); (try clear hi); (try clear ho0); obtain ⟨Ao25, co25, eo25⟩ := Kd.R_slice HO122.out; subst eo25) | ((with_reducible refine gate_builtin (b := .append) (xs := #[.tmp 35, .tmp 38]) rfl ?_); (try (refine gate_guard (by rfl) ?_; dsimp only)); at_builtin; refine Kd.R_append_rows (Kd.int .u8) (w0 := w) w.heap.size rfl (.tmp 35) (.tmp 38) 22 5 (.int .u8 0) 1 rfl Try.underlying22 info5 rfl (by decide) (by omega) v118 y117 t120 _ _ _ (fun k_ => some k_ ≠ (.slice Ao22 y114.length co22 : Value).ownBlock ∧ some k_ ≠ (.slice Ao25 t120.length co25 : Value).ownBlock) (fun _ => False) rfl rfl ?aO ?aR (fun _ _ h => h) (fun _ h => h.elim) ?aF ?aB ?aS ?aL ?_; (case aR => repeat (first | exact (Kd.R_reads' HO122.out).2.2 | (with_reducible refine Kd.C_alloc ?_ _) | (with_reducible refine Kd.C_drewN ?_ _) | (with_reducible refine Kd.C_drew ?_))); (case aB => exact (by repeat (first | (with_reducible first | exact HB.out | apply below_alloc | apply pw_below_drewN | apply below_drew1) | exact HB.out))); (case aF => exact (fun k_ hk => ⟨Kd.fresh' (Kd.R_lt (by (with_reducible repeat (first | apply Kd.R_alloc | apply Kd.R_drewN | apply Kd.R_drew)); exact HO116.out)) k_ hk, Kd.fresh' (Kd.R_lt (by (with_reducible repeat (first | apply Kd.R_alloc | apply Kd.R_drewN | apply Kd.R_drew)); exact HO122.out)) k_ hk⟩)); (case aO => exact (by (with_reducible repeat (first | apply Kd.R_alloc | apply Kd.R_drewN | apply Kd.R_drew)); exact HO119.out)); (case aS => exact (below_size (by repeat (first | (with_reducible first | exact HB.out | apply below_alloc | apply pw_below_drewN | apply below_drew1) | exact HB.out)))); (case aL => have := LMc15.out; omega); intro v124 w24 ho hb hg hat; rw [← Ny123.out] at ho; have n0_ := Aside0.mk (Kd.R_after (ok := (fun k_ => some k_ ≠ (.slice Ao25 t120.length co25 : Value).ownBlock)) (by (with_reducible repeat (first | apply Kd.R_alloc | apply Kd.R_drewN | apply Kd.R_drew)); exact Kd.R_mono HO116.out (fun _ hk => ⟨hk.2, hk.1.2⟩)) hg hat); have n1_ := Aside0.mk (Kd.R_after (ok := (fun k_ => some k_ ≠ (.slice Ao22 y114.length co22 : Value).ownBlock)) (by (with_reducible repeat (first | apply Kd.R_alloc | apply Kd.R_drewN | apply Kd.R_drew)); exact Kd.R_mono HO122.out (fun _ hk => ⟨hk.1.2, hk.2⟩)) hg hat); have n2_ := Aside0.mk (hb); have n3_ := Aside0.mk (ho); clear HO116; clear HO122; clear HB; clear HO119; have HO116 := n0_; have HO122 := n1_; have HB := n2_; have HO125 := n3_; clear n0_ n1_ n2_ n3_; clear ho hb hg hat) | ((with_reducible refine gate_dst (N := 40) rfl ?_); (try (refine gate_guard (by rfl) ?_; dsimp only)); refine Kd.R_lit (Kd.int .u8) _ 5 ?hg (N := 40) ?hd (xs := ([0, 0, 0, 0] : List Int)) (inner := [.int .u8 0, .int .u8 0, .int .u8 0, .int .u8 0]) (ok := fun _ => True) (okp := fun _ => True) ?hr ?hp (fun _ hk => hk) trivial (Below.refl _ _) (Nat.le_refl _) (by simp) ?_; (case hd => rfl); (case hg => rfl); (case hr => first | (go_simp; done) | (go_simp; rfl)); (case hp => exact (Reps.one (show Kd.M (Kd.int .u8) _ _ _ 0 [.int .u8 0] from rfl) (Reps.one (show Kd.M (Kd.int .u8) _ _ _ 0 [.int .u8 0] from rfl) (Reps.one (show Kd.M (Kd.int .u8) _ _ _ 0 [.int .u8 0] from rfl) (Reps.one (show Kd.M (Kd.int .u8) _ _ _ 0 [.int .u8 0] from rfl) (Reps.none _ _)))))); intro v127 w26 ho27 hb hg_ hnew_; clear hg_ hnew_; (first | rw [← Ny126.out] at ho27 | (simp only [Int.reduceToNat] at ho27; rw [← Ny126.out] at ho27)); have n0_ := Aside0.mk (Kd.R_elder' (by (with_reducible repeat (first | apply Kd.R_alloc | apply Kd.R_drewN | apply Kd.R_drew)); exact HO116.out) (Kd.R_base ho27) hb); have n1_ := Aside0.mk (Kd.R_elder' (by (with_reducible repeat (first | apply Kd.R_alloc | apply Kd.R_drewN | apply Kd.R_drew)); exact HO122.out) (Kd.R_base ho27) hb); have n2_ := Aside0.mk (Kd.R_elder' (by (with_reducible repeat (first | apply Kd.R_alloc | apply Kd.R_drewN | apply Kd.R_drew)); exact HO125.out) (Kd.R_base ho27) hb); have n3_ := Aside0.mk (Kd.R_lower (Kd.R_new' (Kd.R_new' (Kd.R_new' ho27 (Kd.R_lt (by (with_reducible repeat (first | apply Kd.R_alloc | apply Kd.R_drewN | apply Kd.R_drew)); exact HO116.out))) (Kd.R_lt (by (with_reducible repeat (first | apply Kd.R_alloc | apply Kd.R_drewN | apply Kd.R_drew)); exact HO122.out))) (Kd.R_lt (by (with_reducible repeat (first | apply Kd.R_alloc | apply Kd.R_drewN | apply Kd.R_drew)); exact HO125.out))) (below_size (by repeat (first | (with_reducible first | exact HB.out | apply below_alloc | apply pw_below_drewN | apply below_drew1) | exact HB.out)))); have n4_ := Aside0.mk (below_step (by repeat (first | (with_reducible first | exact HB.out | apply below_alloc | apply pw_below_drewN | apply below_drew1) | exact HB.out)) hb); clear HO116; clear HO122; clear HO125; clear HB; have HO116 := n0_; have HO122 := n1_; have HO125 := n2_; have HO128 := n3_; have HB := n4_; clear n0_ n1_ n2_ n3_ n4_; clear hb ho27; obtain ⟨Ao29, co29, eo29⟩ := Kd.R_slice HO128.out; subst eo29) | ((with_reducible refine gate_builtin (b := .append) (xs := #[.tmp 39, .tmp 40]) rfl ?_); (try (refine gate_guard (by rfl) ?_; dsimp only)); at_builtin; refine Kd.R_append_rows (Kd.int .u8) (w0 := w) w.heap.size rfl (.tmp 39) (.tmp 40) 22 5 (.int .u8 0) 1 rfl Try.underlying22 info5 rfl (by decide) (by omega) v124 y123 y126 _ _ _ (fun k_ => some k_ ≠ (.slice Ao22 y114.length co22 : Value).ownBlock ∧ some k_ ≠ (.slice Ao25 t120.length co25 : Value).ownBlock ∧ some k_ ≠ (.slice Ao29 y126.length co29 : Value).ownBlock) (fun _ => False) rfl rfl ?aO ?aR (fun _ _ h => h) (fun _ h => h.elim) ?aF ?aB ?aS ?aL ?_; (case aR => repeat (first | exact (Kd.R_reads' HO128.out).2.2 | (with_reducible refine Kd.C_alloc ?_ _) | (with_reducible refine Kd.C_drewN ?_ _) | (with_reducible refine Kd.C_drew ?_))); (case aB => exact (by repeat (first | (with_reducible first | exact HB.out | apply below_alloc | apply pw_below_drewN | apply below_drew1) | exact HB.out))); (case aF => exact (fun k_ hk => ⟨Kd.fresh' (Kd.R_lt (by (with_reducible repeat (first | apply Kd.R_alloc | apply Kd.R_drewN | apply Kd.R_drew)); exact HO116.out)) k_ hk, Kd.fresh' (Kd.R_lt (by (with_reducible repeat (first | apply Kd.R_alloc | apply Kd.R_drewN | apply Kd.R_drew)); exact HO122.out)) k_ hk, Kd.fresh' (Kd.R_lt (by (with_reducible repeat (first | apply Kd.R_alloc | apply Kd.R_drewN | apply Kd.R_drew)); exact HO128.out)) k_ hk⟩)); (case aO => exact (by (with_reducible repeat (first | apply Kd.R_alloc | apply Kd.R_drewN | apply Kd.R_drew)); exact Kd.R_mono HO125.out (fun _ hk => ⟨hk.1.1, ⟨hk.1.2, hk.2⟩⟩))); (case aS => exact (below_size (by repeat (first | (with_reducible first | exact HB.out | apply below_alloc | apply pw_below_drewN | apply below_drew1) | exact HB.out)))); (case aL => have := LMc16.out; omega); intro v130 w28 ho hb hg hat; rw [← Ny129.out] at ho; have n0_ := Aside0.mk (Kd.R_after (ok := (fun k_ => some k_ ≠ (.slice Ao25 t120.length co25 : Value).ownBlock ∧ some k_ ≠ (.slice Ao29 y126.length co29 : Value).ownBlock)) (by (with_reducible repeat (first | apply Kd.R_alloc | apply Kd.R_drewN | apply Kd.R_drew)); exact Kd.R_mono HO116.out (fun _ hk => ⟨⟨hk.1.1, hk.2⟩, hk.1.2⟩)) hg hat); have n1_ := Aside0.mk (Kd.R_after (ok := (fun k_ => some k_ ≠ (.slice Ao22 y114.length co22 : Value).ownBlock ∧ some k_ ≠ (.slice Ao29 y126.length co29 : Value).ownBlock)) (by (with_reducible repeat (first | apply Kd.R_alloc | apply Kd.R_drewN | apply Kd.R_drew)); exact Kd.R_mono HO122.out (fun _ hk => ⟨⟨hk.1.1, hk.2⟩, hk.1.2⟩)) hg hat); have n2_ := Aside0.mk (Kd.R_after (ok := (fun k_ => some k_ ≠ (.slice Ao22 y114.length co22 : Value).ownBlock ∧ some k_ ≠ (.slice Ao25 t120.length co25 : Value).ownBlock)) (by (with_reducible repeat (first | apply Kd.R_alloc | apply Kd.R_drewN | apply Kd.R_drew)); exact Kd.R_mono HO128.out (fun _ hk => ⟨⟨hk.1.1.2, hk.1.2⟩, hk.2⟩)) hg hat); have n3_ := Aside0.mk (hb); have n4_ := Aside0.mk (ho); clear HO116; clear HO122; clear HO128; clear HB; clear HO125; have HO116 := n0_; have HO122 := n1_; have HO128 := n2_; have HB := n3_; have HO131 := n4_; clear n0_ n1_ n2_ n3_ n4_; clear ho hb hg hat) | ((with_reducible refine gate_builtin (b := .append) (xs := #[.tmp 42, .tmp 43]) rfl ?_); (try (refine gate_guard (by rfl) ?_; dsimp only)); at_builtin; refine Kd.R_append_rows (Kd.int .u8) (w0 := w) w.heap.size rfl (.tmp 42) (.tmp 43) 22 5 (.int .u8 0) 1 rfl Try.underlying22 info5 rfl (by decide) (by omega) v130 y129 l2 _ _ _ (fun k_ => some k_ ≠ (.slice Ao22 y114.length co22 : Value).ownBlock ∧ some k_ ≠ (.slice Ao25 t120.length co25 : Value).ownBlock ∧ some k_ ≠ (.slice Ao29 y126.length co29 : Value).ownBlock) (fun _ => False) rfl rfl ?aO ?aR (fun _ _ h => h) (fun _ h => h.elim) ?aF ?aB ?aS ?aL ?_; (case aR => repeat (first | exact (Kd.C_below HR2.out HB.out) | (with_reducible refine Kd.C_alloc ?_ _) | (with_reducible refine Kd.C_drewN ?_ _) | (with_reducible refine Kd.C_drew ?_))); (case aB => exact (by repeat (first | (with_reducible first | exact HB.out | apply below_alloc | apply pw_below_drewN | apply below_drew1) | exact HB.out))); (case aF => exact (fun k_ hk => ⟨Kd.fresh' (Kd.R_lt (by (with_reducible repeat (first | apply Kd.R_alloc | apply Kd.R_drewN | apply Kd.R_drew)); exact HO116.out)) k_ hk, Kd.fresh' (Kd.R_lt (by (with_reducible repeat (first | apply Kd.R_alloc | apply Kd.R_drewN | apply Kd.R_drew)); exact HO122.out)) k_ hk, Kd.fresh' (Kd.R_lt (by (with_reducible repeat (first | apply Kd.R_alloc | apply Kd.R_drewN | apply Kd.R_drew)); exact HO128.out)) k_ hk⟩)); (case aO => exact (by (with_reducible repeat (first | apply Kd.R_alloc | apply Kd.R_drewN | apply Kd.R_drew)); exact HO131.out)); (case aS => exact (below_size (by repeat (first | (with_reducible first | exact HB.out | apply below_alloc | apply pw_below_drewN | apply below_drew1) | exact HB.out)))); (case aL => have := LMc17.out; omega); intro v133 w30 ho hb hg hat; rw [← Ny132.out] at ho; have n0_ := Aside0.mk (Kd.R_after (ok := (fun k_ => some k_ ≠ (.slice Ao25 t120.length co25 : Value).ownBlock ∧ some k_ ≠ (.slice Ao29 y126.length co29 : Value).ownBlock)) (by (with_reducible repeat (first | apply Kd.R_alloc | apply Kd.R_drewN | apply Kd.R_drew)); exact HO116.out) hg hat); have n1_ := Aside0.mk (Kd.R_after (ok := (fun k_ => some k_ ≠ (.slice Ao22 y114.length co22 : Value).ownBlock ∧ some k_ ≠ (.slice Ao29 y126.length co29 : Value).ownBlock)) (by (with_reducible repeat (first | apply Kd.R_alloc | apply Kd.R_drewN | apply Kd.R_drew)); exact HO122.out) hg hat); have n2_ := Aside0.mk (Kd.R_after (ok := (fun k_ => some k_ ≠ (.slice Ao22 y114.length co22 : Value).ownBlock ∧ some k_ ≠ (.slice Ao25 t120.length co25 : Value).ownBlock)) (by (with_reducible repeat (first | apply Kd.R_alloc | apply Kd.R_drewN | apply Kd.R_drew)); exact HO128.out) hg hat); have n3_ := Aside0.mk (hb); have n4_ := Aside0.mk (ho); clear HO116; clear HO122; clear HO128; clear HB; clear HO131; have HO116 := n0_; have HO122 := n1_; have HO128 := n2_; have HB := n3_; have HO134 := n4_; clear n0_ n1_ n2_ n3_ n4_; clear ho hb hg hat))
                go_loopg [8] kj3 (fun kq v8 w' => ∃ (x8_2 : List Int), Aside0 (spec_EncodePage.l0 kq x8_2 = some (r1, r2)) ∧ Aside0 (kq ≤ kj3) ∧ Aside0 (Kd.R (Kd.int .u8) 5 w' w.heap.size (fun _ => True) v8 x8_2) ∧ Aside0 (Below w.heap.size w w'))
                case atStart => exact ⟨(y132), H', ⟨Nat.le_refl _⟩, ⟨by (with_reducible repeat (first | apply Kd.R_alloc | apply Kd.R_drewN | apply Kd.R_drew)); exact Kd.R_mono HO134.out (fun _ hk => trivial)⟩, ⟨by repeat (first | (with_reducible first | exact HB.out | apply below_alloc | apply pw_below_drewN | apply below_drew1) | exact HB.out)⟩⟩
                case round =>
                  clear H'
                  try clear c1
                  try clear c2
                  try clear p2
                  try clear c5
                  try clear c5b0
                  try clear c6
                  try clear c6b0
                  try clear c7
                  try clear c7b0
                  try clear c8
                  try clear c8b0
                  try clear c9
                  try clear c13
                  try clear c15
                  try clear c16
                  try clear c17
                  try clear c21
                  try clear p2
                  obtain ⟨x8_2, HA, HK2, HO_8, HB⟩ := hrel
                  cases gk with
                  | zero => exact absurd HA.out (by unfold spec_EncodePage.l0; simp)
                  | succ k2 =>
                    have H := HA.out
                    clear HA
                    unfold spec_EncodePage.l0 at H
                    by_cases c31 : (x8_2.length : Int) < 252
                    · rw [if_pos c31] at H
                      have c31b0 : decide ((x8_2.length : Int) < 252) = true := decide_eq_true c31
                      have c31b1 : decide (x8_2.length < 252) = true := decide_eq_true (by omega)
                      clear c31
                      by_cases c32 : x8_2.length < 140737488355328
                      · rw [if_pos c32] at H
                        have LMc32 := Aside0.mk c32
                        clear c32
                        obtain ⟨y135, hy135⟩ : ∃ y_ : List Int, y_ = (x8_2 ++ [0]) := ⟨_, rfl⟩
                        replace H : (spec_EncodePage.l0 k2 y135) = some (r1, r2) := by first | (rw [hy135]; with_reducible exact H) | (have H2_ := (Option.bind_some _ _).symm.trans H; rw [hy135]; with_reducible exact H2_) | (have H2_ := (Option.bind_some _ _).symm.trans H; with_reducible exact H2_) | with_reducible exact H | (rw [hy135]; exact H) | exact H
                        have Ny135 := Aside0.mk hy135
                        clear hy135
                        have H' := Aside0.mk H
                        clear H
                        obtain ⟨Ao33, co33, eo33⟩ := Kd.R_slice HO_8.out
                        subst eo33
                        go_wp2_with (first | ((with_reducible refine gate_builtin (b := .append) (xs := #[.tmp 48, .tmp 49]) rfl ?_); (try (refine gate_guard (by rfl) ?_; dsimp only)); at_builtin; refine Kd.R_append (Kd.int .u8) (w0 := w) w.heap.size rfl (.tmp 48) (.tmp 49) 22 5 (.int .u8 0) 1 rfl Try.underlying22 info5 rfl (by decide) (by omega) (.slice Ao33 x8_2.length co33) x8_2 0 [.int .u8 0] (fun _ => True) (fun _ => False) rfl rfl ?aP (fun _ hk => hk.elim) ?aF ?aO ?aB ?aS ?aL ?_; (case aP => exact rfl); (case aB => exact (by repeat (first | (with_reducible first | exact HB.out | apply below_alloc | apply pw_below_drewN | apply below_drew1) | exact HB.out))); (case aF => exact (fun _ _ => trivial)); (case aO => exact (by (with_reducible repeat (first | apply Kd.R_alloc | apply Kd.R_drewN | apply Kd.R_drew)); exact HO_8.out)); (case aS => exact (below_size (by repeat (first | (with_reducible first | exact HB.out | apply below_alloc | apply pw_below_drewN | apply below_drew1) | exact HB.out)))); (case aL => have := LMc32.out; omega); intro v136 w34 ho hb hg hat; rw [← Ny135.out] at ho; have n0_ := Aside0.mk (hb); have n1_ := Aside0.mk (ho); clear HB; clear HO_8; have HB := n0_; have HO137 := n1_; clear n0_ n1_; clear ho hb hg hat))
                        go_roundg k2
                        case measure => have := HJ3.out; have := HK2.out; omega
                        case rel => exact ⟨(y135), H', ⟨by have := HJ3.out; have := HK2.out; omega⟩, ⟨by (with_reducible repeat (first | apply Kd.R_alloc | apply Kd.R_drewN | apply Kd.R_drew)); exact HO137.out⟩, ⟨by repeat (first | (with_reducible first | exact HB.out | apply below_alloc | apply pw_below_drewN | apply below_drew1) | exact HB.out)⟩⟩
                      · rw [if_neg c32] at H
                        exact absurd H (by simp)
                    · rw [if_neg c31] at H
                      have c31b0 : decide ((x8_2.length : Int) < 252) = false := decide_eq_false c31
                      have c31b1 : decide (x8_2.length < 252) = false := decide_eq_false (by omega)
                      clear c31
                      replace H := Option.bind_eq_some_iff.mp H
                      obtain ⟨t138, A350, H⟩ := H
                      replace H : ((spec_l2Num.f k2 t138 4).bind fun t139 => (if t139.length + x8_2.length < 140737488355328 then (some ((t139 ++ x8_2), true)) else (none))) = some (r1, r2) := H
                      have A35 := Aside0.mk A350
                      clear A350
                      replace H := Option.bind_eq_some_iff.mp H
                      obtain ⟨t139, A360, H⟩ := H
                      replace H : (if t139.length + x8_2.length < 140737488355328 then (some ((t139 ++ x8_2), true)) else (none)) = some (r1, r2) := H
                      have A36 := Aside0.mk A360
                      clear A360
                      by_cases c37 : t139.length + x8_2.length < 140737488355328
                      · rw [if_pos c37] at H
                        have LMc37 := Aside0.mk c37
                        clear c37
                        obtain ⟨y142, hy142⟩ : ∃ y_ : List Int, y_ = (t139 ++ x8_2) := ⟨_, rfl⟩
                        replace H : (some (y142, true)) = some (r1, r2) := by first | (rw [hy142]; with_reducible exact H) | (have H2_ := (Option.bind_some _ _).symm.trans H; rw [hy142]; with_reducible exact H2_) | (have H2_ := (Option.bind_some _ _).symm.trans H; with_reducible exact H2_) | with_reducible exact H | (rw [hy142]; exact H) | exact H
                        have Ny142 := Aside0.mk hy142
                        clear hy142
                        simp only [Option.some.injEq, Prod.mk.injEq] at H
                        obtain ⟨rfl, rfl⟩ := H
                        obtain ⟨Ao38, co38, eo38⟩ := Kd.R_slice HO_8.out
                        subst eo38
                        go_wp2_with (first | ((with_reducible refine gate_callee (f := 78) rfl ?_); refine goesL_ (some 52) rfl rfl Try.func78 (by kernel_rfl) rfl #[.slice Ao38 x8_2.length co38] rfl (by (try simp only [List.map_toArray, List.map_cons, List.map_nil]); first | done | rfl | (simp only [List.length_drop, List.length_take]; rfl)) ?_; (with_reducible refine (spec_Crc32.calls k2 _ _ x8_2 t138 _ ?side1 ?side2 A35.out).mono ?_); (case side1 => repeat (first | exact (Kd.R_reads' HO_8.out).2.2 | (with_reducible refine Kd.C_alloc ?_ _) | (with_reducible refine Kd.C_drewN ?_ _) | (with_reducible refine Kd.C_drew ?_))); (case side2 => exact (Kd.R_reads' HO_8.out).2.1); rintro e w' ⟨rfl, ⟨nd, rfl⟩⟩; refine ⟨_, rfl, ?_⟩) | ((with_reducible refine gate_callee (f := 77) rfl ?_); refine goesL_ (some 53) rfl rfl Try.func77 (by kernel_rfl) rfl #[.int .i64 t138, .int .i64 4] rfl (by (try simp only [List.map_toArray, List.map_cons, List.map_nil]); first | done | rfl | (simp only [List.length_drop, List.length_take]; rfl)) ?_; (with_reducible refine (spec_l2Num.calls k2 t138 4 t139 _ A36.out).mono ?_); rintro e w39 ⟨v140, rfl, ho0, hb⟩; refine ⟨_, rfl, ?_⟩; have n0_ := Aside0.mk (Kd.R_elder' (by (with_reducible repeat (first | apply Kd.R_alloc | apply Kd.R_drewN | apply Kd.R_drew)); exact HO_8.out) (Kd.R_base ho0) hb); have n1_ := Aside0.mk (Kd.R_lower (Kd.R_new' ho0 (Kd.R_lt (by (with_reducible repeat (first | apply Kd.R_alloc | apply Kd.R_drewN | apply Kd.R_drew)); exact HO_8.out))) (below_size (by repeat (first | (with_reducible first | exact HB.out | apply below_alloc | apply pw_below_drewN | apply below_drew1) | exact HB.out)))); have n2_ := Aside0.mk (below_step (by repeat (first | (with_reducible first | exact HB.out | apply below_alloc | apply pw_below_drewN | apply below_drew1) | exact HB.out)) hb); clear HO_8; clear HB; have HO_8 := n0_; have HO141 := n1_; have HB := n2_; clear n0_ n1_ n2_; (try clear hb); (try clear hb2); (try clear hk); (try clear hi); (try clear ho0)) | ((with_reducible refine gate_builtin (b := .append) (xs := #[.tmp 53, .tmp 54]) rfl ?_); (try (refine gate_guard (by rfl) ?_; dsimp only)); at_builtin; refine Kd.R_append_rows (Kd.int .u8) (w0 := w) w.heap.size rfl (.tmp 53) (.tmp 54) 22 5 (.int .u8 0) 1 rfl Try.underlying22 info5 rfl (by decide) (by omega) v140 t139 x8_2 _ _ _ (fun k_ => some k_ ≠ (.slice Ao38 x8_2.length co38 : Value).ownBlock) (fun _ => False) rfl rfl ?aO ?aR (fun _ _ h => h) (fun _ h => h.elim) ?aF ?aB ?aS ?aL ?_; (case aR => repeat (first | exact (Kd.R_reads' HO_8.out).2.2 | (with_reducible refine Kd.C_alloc ?_ _) | (with_reducible refine Kd.C_drewN ?_ _) | (with_reducible refine Kd.C_drew ?_))); (case aB => exact (by repeat (first | (with_reducible first | exact HB.out | apply below_alloc | apply pw_below_drewN | apply below_drew1) | exact HB.out))); (case aF => exact (fun k_ hk => Kd.fresh' (Kd.R_lt (by (with_reducible repeat (first | apply Kd.R_alloc | apply Kd.R_drewN | apply Kd.R_drew)); exact HO_8.out)) k_ hk)); (case aO => exact (by (with_reducible repeat (first | apply Kd.R_alloc | apply Kd.R_drewN | apply Kd.R_drew)); exact Kd.R_mono HO141.out (fun _ hk => hk.2))); (case aS => exact (below_size (by repeat (first | (with_reducible first | exact HB.out | apply below_alloc | apply pw_below_drewN | apply below_drew1) | exact HB.out)))); (case aL => have := LMc37.out; omega); intro v143 w40 ho hb hg hat; rw [← Ny142.out] at ho; have n0_ := Aside0.mk (Kd.R_after (ok := (fun _ => True)) (by (with_reducible repeat (first | apply Kd.R_alloc | apply Kd.R_drewN | apply Kd.R_drew)); exact HO_8.out) hg hat); have n1_ := Aside0.mk (hb); have n2_ := Aside0.mk (ho); clear HO_8; clear HB; clear HO141; have HO_8 := n0_; have HB := n1_; have HO144 := n2_; clear n0_ n1_ n2_; clear ho hb hg hat))
                        go_ret2
                        exact ⟨_, by first | rfl | (simp [errW_none, errW_some] <;> rfl) | (simp [*, errW_none, errW_some] <;> rfl), by (with_reducible repeat (first | apply Kd.R_alloc | apply Kd.R_drewN | apply Kd.R_drew)); exact Kd.R_mono HO144.out (fun _ hk => trivial), by repeat (first | (with_reducible first | exact HB.out | apply below_alloc | apply pw_below_drewN | apply below_drew1) | exact HB.out)⟩
                      · rw [if_neg c37] at H
                        exact absurd H (by simp)
              · rw [if_neg c17] at H
                exact absurd H (by simp)
            · rw [if_neg c16] at H
              exact absurd H (by simp)
          · rw [if_neg c15] at H
            exact absurd H (by simp)
        · rw [if_neg c13] at H
          exact absurd H (by simp)

end Go.Proofs.Ytlopmffdebhpfaa.G

/-! ## G14 -/
namespace Go.Proofs.Ytlopmffdebhpfaa.G
open Go.RowKit Go.Proofs.YtlopmffdebhpfaaW.PrintWords Go.Proofs.YtlopmffdebhpfaaW.PrintLast Go.Proofs.YtlopmffdebhpfaaW.PrintMore
attribute [local go_sem] max2_int min2_int max_two min_two max_three min_three max_four min_four
set_option linter.unusedVariables false
set_option linter.unusedSimpArgs false

/-! ### spec_DecodePage: function 14 -/
end Go.Proofs.Ytlopmffdebhpfaa.G

/-! ## Base -/
namespace Go.Proofs.Ytlopmffdebhpfaa.G
open Go.RowKit Go.Proofs.YtlopmffdebhpfaaW.PrintWords Go.Proofs.YtlopmffdebhpfaaW.PrintLast Go.Proofs.YtlopmffdebhpfaaW.PrintMore

/-- ys laid over xs from place o on. -/
def spl (xs : List Int) (o : Nat) (ys : List Int) : List Int := xs.take o ++ ys ++ xs.drop (o + ys.length)
theorem spl_length (xs : List Int) (o : Nat) (ys : List Int) (h : o + ys.length ≤ xs.length) : (spl xs o ys).length = xs.length := by
  simp only [spl, List.length_append, List.length_take, List.length_drop]
  omega

theorem take_splice {α : Type} (l m : List α) (n off k : Nat) (hm : m.length = k) (h1 : off + k ≤ n) (h2 : n ≤ l.length) : (l.take off ++ m ++ l.drop (off + k)).take n = l.take off ++ m ++ (l.drop (off + k)).take (n - (off + k)) := by
  have hl : (l.take off ++ m).length = off + k := by rw [List.length_append, List.length_take, hm]; omega
  rw [List.take_append, hl, List.take_of_length_le (by omega)]

theorem run_copy_at {P : Program} (t t' ty e : TypeId) (ht : P.underlying t = some (.slice e)) (hinfo : (P.info? e).map (·.size) = some 1) (W : World) {k : IntKind} {base g cap off : Nat} {ok : Nat → Prop} {xs ys : List Int} {A dA : Option Addr} {c dc : Nat}
    (HO : Kd.R (Kd.int k) e W base ok (.slice (some ⟨g, 0, none⟩) xs.length cap) xs) (HR : Kd.C (Kd.int k) W A ys.length ys) (hoff : off + ys.length ≤ xs.length) (hdA : 0 < ys.length → dA = some ⟨g, off, none⟩) :
    ∃ w1, (Builtin.copy_ #[t, t'] ty #[.slice dA (xs.length - off) dc, .slice A ys.length c]).run P W = .ok (.int .i64 (ys.length : Int)) w1 ∧
      Kd.R (Kd.int k) e w1 base ok (.slice (some ⟨g, 0, none⟩) xs.length cap) (spl xs off ys) ∧ W.grownBy w1 (some g) := by
  have hR := Kd.reads_of_C (enc := Value.int k) (d := 0) (h1 := fun _ => rfl) HR
  have hown := Kd.own_of_R HO
  rcases Nat.eq_zero_or_pos ys.length with h0 | hp
  · have hy := List.eq_nil_of_length_eq_zero h0
    subst hy
    refine ⟨W, ?_, by rw [show spl xs off [] = xs by simp [spl]]; exact HO, World.grownBy.refl W _⟩
    exact run_copy_none W t t' ty e dA A (xs.length - off) dc 0 c ht hinfo (by simp)
  · obtain ⟨ad, hA, hc⟩ := hR.2.2 hp
    rcases hown.2 with ⟨hv, _⟩ | ⟨g', cap', cur, hv, hb, hh, hnc, hcm, hcs, htake⟩
    · cases hv
    injection hv with hv1 _ hv2
    injection hv1 with hv1
    injection hv1 with hv1
    subst hv1; subst hv2
    rw [hA, hdA hp]
    have hcs1 : cur.size = cap := by omega
    have hkl : (encs (Value.int k) ys).length = ys.length := encs_length ys
    have hsrc : ∀ j u, (encs (Value.int k) ys)[j]? = some u → W.cell? (ad.add j) = some u := by
      intro j u hu
      have hj : j < ys.length := by
        have := (List.getElem?_eq_some_iff.1 hu).1
        rwa [hkl] at this
      rw [encs_get (d := 0) _ j hj] at hu
      rw [hc j hj, ← hu]
    have hr := run_copy_cells (P := P) W t t' ty e g off (xs.length - off) dc ad ys.length c (encs (Value.int k) ys) ht hinfo (by rw [hkl]; exact (Nat.min_eq_left (by omega)).symm) hsrc
      (fun j hj => by rw [cell_of_row W g _ cur e (0, 0) hh]; simp; omega) (fun j _ => blk_frozen hh _) (by intro u hu; simp only [encs, List.mem_map] at hu; obtain ⟨q, _, rfl⟩ := hu; rfl)
    obtain ⟨cur', h3, h4, h5⟩ := setCells_row (encs (Value.int k) ys) off W cur hh (by rw [hkl]; omega)
    obtain ⟨s1, s2, s3, s4⟩ := setCells_same g (encs (Value.int k) ys) off W
    refine ⟨_, by rw [hr, hkl]; rfl, Kd.R_of_own ?_ HO.1, ⟨s1, s2, s3, by rw [s4]; exact Nat.le_refl _, fun i _ hk => setCells_far _ _ i (fun he => hk (by rw [he]))⟩⟩
    have hln := spl_length xs off ys hoff
    rw [hln]
    refine ⟨by rw [encs_length, hln, Nat.mul_one], .inr ⟨g, cap, cur', rfl, hb, h3, hnc, hcm, by rw [h4, hcs], ?_⟩⟩
    rw [h5, Nat.mul_one]
    have htk : cur.toList.take xs.length = encs (Value.int k) xs := by rw [← htake, Nat.mul_one]
    have e1 : cur.toList.take off = encs (Value.int k) (xs.take off) := by
      rw [encs, List.map_take, ← encs, ← htk, List.take_take, Nat.min_eq_left (by omega)]
    have e2 : (cur.toList.drop (off + ys.length)).take (xs.length - (off + ys.length)) = encs (Value.int k) (xs.drop (off + ys.length)) := by
      rw [encs, List.map_drop, ← encs, ← htk, List.drop_take]
    have hlt : cur.toList.length = cap := by rw [Array.length_toList]; exact hcs1
    rw [hkl, take_splice cur.toList (encs (Value.int k) ys) xs.length off ys.length hkl hoff (by omega), e1, e2, spl, encs_append, encs_append]

/-- A cut of a row that begins at its block's head. -/
theorem cut_own {P : Program} (t e : TypeId) {i : TypeInfo} (ht : P.underlying t = some (.slice e)) (hi : P.info? e = some i) (hsz : i.size = 1) (g n cap m : Nat) (hm : m ≤ n) (hc : m < cap) (W : World) :
    (Instr.slice t (.slice (some ⟨g, 0, none⟩) n cap) (some (.int .i64 (m : Int))) none none).run P W = .ok (.slice (some ⟨g, m, none⟩) (n - m) (cap - m)) W := by
  have hel : P.elem t = e := by simp [Program.elem, ht]
  have hu : P.underlying t = some (.slice (P.elem t)) := by rw [hel]; exact ht
  rw [run_slice_l W t (some ⟨g, 0, none⟩) n cap hu .i64 (m : Int) (Int.natCast_nonneg _) (by omega), hel]
  have hne : ¬ cap = m := by omega
  simp [sizeOf, typeInfo, hi, hsz, sliced, Result.andThen, hne, add_plain]

section
variable {P : Program} {ops : Array Oper} {Q : Exit → Act → World → Prop}
/-- copy as a step of a region that draws its order. -/
theorem copy_step {oi : Oper} {N : Option Tmp} {a : Act} {w w1 : World} {K : Act → World → Prop} (hw : Region.wanted oi (yielded ops a.tmps) = true) (hN : oi.dst = N) (s x : Operand) (t t' : TypeId)
    (ho : oi.op = .call { callee := .builtin .copy, args := #[s, x], argTypes := #[t, t'] }) (dv sv n : Value) (hs : a.eval s = dv) (hx : a.eval x = sv) (hr : (Builtin.copy_ #[t, t'] oi.type #[dv, sv]).run P w = .ok n w1) (h : K (a.put N n) w1) :
    if Region.wanted oi (yielded ops a.tmps) = true then Oper.wp P oi a w K Q else K (a.put N undef) w := by
  refine value_ hw hN ?_ h
  unfold execOp
  simp only [ho, resolve, invoke, builtin, Sem.run_bind, Sem.run_pure, Result.andThen_ok, List.map_toArray, List.map_cons, List.map_nil, hs, hx, hr]
/-- copy in a plain region. -/
theorem copy_list {rest : List Oper} {o : Oper} {a : Act} {W w1 : World} (hgd : o.guard = none) (s x : Operand) (t t' : TypeId) (ho : o.op = .call { callee := .builtin .copy, args := #[s, x], argTypes := #[t, t'] })
    (dv sv n : Value) (hs : a.eval s = dv) (hx : a.eval x = sv) (hr : (Builtin.copy_ #[t, t'] o.type #[dv, sv]).run P W = .ok n w1) (h : wpList P ops Q rest (a.put o.dst n) w1) : wpList P ops Q (o :: rest) a W := by
  refine wpList_plain hgd fun K hK => ?_
  unfold Oper.wp execOp
  simp only [ho, resolve, invoke, builtin, Sem.run_bind, Sem.run_pure, Result.andThen_ok, List.map_toArray, List.map_cons, List.map_nil, hs, hx, hr]
  exact hK _ _ h
end
end Go.Proofs.Ytlopmffdebhpfaa.G

/-! ## Blk -/
namespace Go.Proofs.Ytlopmffdebhpfaa.G
open Go.RowKit Go.Proofs.YtlopmffdebhpfaaW.PrintWords Go.Proofs.YtlopmffdebhpfaaW.PrintLast Go.Proofs.YtlopmffdebhpfaaW.PrintMore

theorem run_store_blk {P : Program} {W : World} {g : Nat} {e : TypeId} {cur : Array Value} (t : TypeId) (u : Value) (cs' : Array Value) (o : Nat) (seg : List Value) (hh : W.heap[g]? = some (.cells cur e (0, 0))) (hu : u.cells.toList = seg) (ht : (P.info? t).map (·.size) = some seg.length)
    (hfit : o + seg.length ≤ cur.size) (h1 : seg.all (fun q => q.oneCell') = true) (hcs : cs' = (cur.toList.take o ++ seg ++ cur.toList.drop (o + seg.length)).toArray) :
    ∃ w1, (Instr.storeAt t (.pointer (some ⟨g, o, none⟩)) u).run P W = .ok () w1 ∧ w1.heap[g]? = some (.cells cs' e (0, 0)) ∧ W.grownBy w1 (some g) := by
  refine ⟨_, run_store_run t u seg hh hu ht hfit (fun q hq => by simpa using List.all_eq_true.1 h1 q hq), ?_, ?_⟩
  · obtain ⟨cur', h3, h4, h5⟩ := setCells_row seg o W cur hh hfit
    rw [h3]
    have : cur' = cs' := by
      apply Array.ext'
      rw [h5, hcs]
    rw [this]
  · obtain ⟨s1, s2, s3, s4⟩ := setCells_same g seg o W
    exact ⟨s1, s2, s3, by rw [s4]; exact Nat.le_refl _, fun k _ hk => setCells_far _ _ k (fun he => hk (by rw [he]))⟩

section
variable {P : Program} {ops : Array Oper} {rest : List Oper} {o : Oper} {a : Act} {Q : Exit → Act → World → Prop}
/-- In a plain region. -/
theorem store_blk {W : World} (hgd : o.guard = none) (hN : o.dst = none) (t : TypeId) (p x : Operand) (ho : o.op = .store t p x) {g off : Nat} {u : Value} (cs' : Array Value) (hp : a.eval p = .pointer (some ⟨g, off, none⟩)) (hx : a.eval x = u)
    {e : TypeId} {cur : Array Value} (hh : W.heap[g]? = some (.cells cur e (0, 0))) (seg : List Value) (hu : u.cells.toList = seg) (ht : (P.info? t).map (·.size) = some seg.length)
    (hfit : off + seg.length ≤ cur.size) (h1 : seg.all (fun q => q.oneCell') = true) (hcs : cs' = (cur.toList.take off ++ seg ++ cur.toList.drop (off + seg.length)).toArray)
    (h : ∀ w1, w1.heap[g]? = some (.cells cs' e (0, 0)) → W.grownBy w1 (some g) → wpList P ops Q rest a w1) : wpList P ops Q (o :: rest) a W := by
  obtain ⟨w1, hr, h2, h3⟩ := run_store_blk (P := P) t u cs' off seg hh hu ht hfit h1 hcs
  refine wpList_plain hgd fun K hK => ?_
  unfold Oper.wp execOp
  simp only [ho, hp, hx, Sem.run_bind, Sem.run_pure, Result.andThen_ok, hr]
  show K (a.put o.dst undef) w1
  rw [hN]
  exact hK _ _ (h _ h2 h3)
/-- In a region that draws its order. -/
theorem store_blk_step {W : World} {K : Act → World → Prop} (hw : Region.wanted o (yielded ops a.tmps) = true) (hN : o.dst = none) (t : TypeId) (p x : Operand) (ho : o.op = .store t p x) {g off : Nat} {u : Value} (cs' : Array Value) (hp : a.eval p = .pointer (some ⟨g, off, none⟩)) (hx : a.eval x = u)
    {e : TypeId} {cur : Array Value} (hh : W.heap[g]? = some (.cells cur e (0, 0))) (seg : List Value) (hu : u.cells.toList = seg) (ht : (P.info? t).map (·.size) = some seg.length)
    (hfit : off + seg.length ≤ cur.size) (h1 : seg.all (fun q => q.oneCell') = true) (hcs : cs' = (cur.toList.take off ++ seg ++ cur.toList.drop (off + seg.length)).toArray)
    (h : ∀ w1, w1.heap[g]? = some (.cells cs' e (0, 0)) → W.grownBy w1 (some g) → K a w1) : if Region.wanted o (yielded ops a.tmps) = true then Oper.wp P o a W K Q else K (a.put none undef) W := by
  obtain ⟨w1, hr, h2, h3⟩ := run_store_blk (P := P) t u cs' off seg hh hu ht hfit h1 hcs
  rw [if_pos hw]
  unfold Oper.wp execOp
  simp only [ho, hp, hx, Sem.run_bind, Sem.run_pure, Result.andThen_ok, hr]
  show K (a.put o.dst undef) w1
  rw [hN]
  exact h _ h2 h3
end
end Go.Proofs.Ytlopmffdebhpfaa.G

/-! ## G135 -/
namespace Go.Proofs.Ytlopmffdebhpfaa.G
open Go.RowKit Go.Proofs.YtlopmffdebhpfaaW.PrintWords Go.Proofs.YtlopmffdebhpfaaW.PrintLast Go.Proofs.YtlopmffdebhpfaaW.PrintMore
attribute [local go_sem] max2_int min2_int max_two min_two max_three min_three max_four min_four
set_option linter.unusedVariables false
set_option linter.unusedSimpArgs false

/-! ### impl_low: function 135 -/
def impl_low.l0 : Nat → Int → List Int → Int → Int → Option (List Int)
  | 0, _, _, _, _ => none
  | k + 1, x0, x5, x10, x11 => if x11 < x10 then (if 0 ≤ (wrap64 (8 * x11)) then (if 0 ≤ x11 then (if x11 < (x5.length : Int) then (impl_low.l0 k x0 (x5.set (x11 : Int).toNat ((shr .i64 x0 (wrap64 (8 * x11))) % 256)) x10 (wrap64 (x11 + 1))) else (none)) else (none)) else (none)) else (some x5)
def impl_low.f (k : Nat) (a0 : Int) (a1 : Int) : Option (List Int) := if 0 ≤ a1 then (if (a1 : Int).toNat ≤ 281474976710656 then ((some (List.replicate (a1 : Int).toNat 0 : List Int)).bind fun y670 => (impl_low.l0 k a0 y670 (y670.length : Int) 0)) else (none)) else (none)
set_option maxHeartbeats 8000000 in
set_option maxRecDepth 100000 in
theorem impl_low.calls (k : Nat) (a0 : Int) (a1 : Int) (r : List Int) (w : World) (h : impl_low.f k a0 a1 = some r) :
    Calls Try.prog 135 #[.int .i64 a0, .int .i64 a1] w fun e w' => ∃ v0_ : Value, e = .returned (v0_) ∧ Kd.R (Kd.int .u8) 5 w' w.heap.size (fun _ => True) v0_ r ∧ Below w.heap.size w w' := by
  have HB := Aside0.mk (Below.refl w.heap.size w)
  have H : (if 0 ≤ a1 then (if (a1 : Int).toNat ≤ 281474976710656 then ((some (List.replicate (a1 : Int).toNat 0 : List Int)).bind fun y670 => (impl_low.l0 k a0 y670 (y670.length : Int) 0)) else (none)) else (none)) = some r := h
  clear h
  by_cases c3 : 0 ≤ a1
  · rw [if_pos c3] at H
    have c3b0 := eq_true c3
    have c3b1 : decide (0 ≤ a1) = true := decide_eq_true c3
    clear c3
    by_cases c4 : (a1 : Int).toNat ≤ 281474976710656
    · rw [if_pos c4] at H
      have c4b0 := eq_true c4
      have c4b1 : decide ((a1 : Int).toNat ≤ 281474976710656) = true := decide_eq_true c4
      clear c4
      obtain ⟨y670, hy670⟩ : ∃ y_ : List Int, y_ = (List.replicate (a1 : Int).toNat 0) := ⟨_, rfl⟩
      replace H : (impl_low.l0 k a0 y670 (y670.length : Int) 0) = some r := by first | (rw [hy670]; with_reducible exact H) | (have H2_ := (Option.bind_some _ _).symm.trans H; rw [hy670]; with_reducible exact H2_) | (have H2_ := (Option.bind_some _ _).symm.trans H; with_reducible exact H2_) | with_reducible exact H | (rw [hy670]; exact H) | exact H
      have Ny670 := Aside0.mk hy670
      clear hy670
      have H' := Aside0.mk H
      clear H
      go_enter Try.func135, Try.ntmps135
      go_wp2_with (first | ((with_reducible refine gate_dst (N := 8) rfl ?_); refine Kd.R_make (Kd.int .u8) _ 5 rfl (N := 8) rfl 22 _ _ rfl a1 rfl rfl Try.underlying22 (.int .u8 0) 1 info5 rfl (by decide) (by omega) 0 (ok := fun _ => True) (okp := fun _ => True) rfl (fun _ hk => hk) trivial (of_decide_eq_true (by first | (with_reducible assumption) | assumption)) (Nat.le_trans (Nat.mul_le_mul_right _ (of_decide_eq_true (by first | (with_reducible assumption) | assumption) : a1.toNat ≤ 281474976710656)) (by omega)) (Below.refl _ _) (Nat.le_refl _) ?_; intro v671 w5 ho6 hb hg_ hnew_; clear hg_ hnew_; (first | rw [← Ny670.out] at ho6 | (simp only [Int.reduceToNat] at ho6; rw [← Ny670.out] at ho6)); have n0_ := Aside0.mk (Kd.R_lower ho6 (below_size (by repeat (first | (with_reducible first | exact HB.out | apply below_alloc | apply pw_below_drewN | apply below_drew1) | exact HB.out)))); have n1_ := Aside0.mk (below_step (by repeat (first | (with_reducible first | exact HB.out | apply below_alloc | apply pw_below_drewN | apply below_drew1) | exact HB.out)) hb); clear HB; have HO672 := n0_; have HB := n1_; clear n0_ n1_; clear hb ho6; obtain ⟨Ao7, co7, eo7⟩ := Kd.R_slice HO672.out; subst eo7))
      go_loopg [11] k (fun kq v11 w' => ∃ (x5_1 : List Int) (x11_1 : Int), v11 = .int .i64 x11_1 ∧ Aside0 (impl_low.l0 kq a0 x5_1 (y670.length : Int) x11_1 = some r) ∧ Aside0 (kq ≤ k) ∧ Aside0 (Kd.R (Kd.int .u8) 5 w' w.heap.size (fun _ => True) (.slice Ao7 y670.length co7) x5_1) ∧ Aside0 (Below w.heap.size w w'))
      case atStart => exact ⟨(y670), (0), (by first | rfl | (simp; done) | (simp [*]; done)), H', ⟨Nat.le_refl _⟩, ⟨by (with_reducible repeat (first | apply Kd.R_alloc | apply Kd.R_drewN | apply Kd.R_drew)); exact HO672.out⟩, ⟨by repeat (first | (with_reducible first | exact HB.out | apply below_alloc | apply pw_below_drewN | apply below_drew1) | exact HB.out)⟩⟩
      case round =>
        clear H'
        try clear c1
        try clear p2
        try clear c3
        try clear c3b0
        try clear c3b1
        try clear c4
        try clear c4b0
        try clear c4b1
        obtain ⟨x5_1, x11_1, rfl, HA, HK1, HO_5, HB⟩ := hrel
        have hl5_1 := (Kd.R_reads' HO_5.out).1
        rw [hl5_1] at HO_5
        (try simp only [hl5_1])
        cases gk with
        | zero => exact absurd HA.out (by simp [impl_low.l0])
        | succ k1 =>
          have H := HA.out
          clear HA
          simp only [impl_low.l0] at H
          by_cases c8 : x11_1 < (y670.length : Int)
          · rw [if_pos c8] at H
            have c8b0 : decide (x11_1 < (y670.length : Int)) = true := decide_eq_true c8
            clear c8
            obtain ⟨ji9, hji9⟩ : ∃ j_ : Int, (wrap64 (8 * x11_1)) = j_ := ⟨_, rfl⟩
            replace H : (if 0 ≤ (ji9) then (if 0 ≤ x11_1 then (if x11_1 < (x5_1.length : Int) then (impl_low.l0 k1 a0 (x5_1.set (x11_1 : Int).toNat ((shr .i64 a0 (ji9)) % 256)) (y670.length : Int) (wrap64 (x11_1 + 1))) else (none)) else (none)) else (none)) = some r := by first | (rw [hji9] at H; exact H) | (simp only [hji9] at H ⊢; exact H)
            have hji9w : (IntKind.i64.wrap (8 * x11_1)) = ji9 := (i64_w _).trans hji9
            by_cases c10 : 0 ≤ (ji9)
            · rw [if_pos c10] at H
              have c10b0 := eq_true c10
              have c10b1 : decide (0 ≤ (ji9)) = true := decide_eq_true c10
              clear c10
              obtain ⟨ji11, hji11⟩ : ∃ j_ : Int, (shr .i64 a0 (ji9)) = j_ := ⟨_, rfl⟩
              replace H : (if 0 ≤ x11_1 then (if x11_1 < (x5_1.length : Int) then (impl_low.l0 k1 a0 (x5_1.set (x11_1 : Int).toNat ((ji11) % 256)) (y670.length : Int) (wrap64 (x11_1 + 1))) else (none)) else (none)) = some r := by first | (rw [hji11] at H; exact H) | (simp only [hji11] at H ⊢; exact H)
              have hji11_ : (a0 / 2 ^ min (ji9).toNat 64) = ji11 := hji11
              have hji11z : (ji9) ≤ 64 → (a0 / 2 ^ (ji9).toNat) = ji11 := shr_small hji11
              by_cases c12 : 0 ≤ x11_1
              · rw [if_pos c12] at H
                have c12b0 : decide (0 ≤ x11_1) = true := decide_eq_true c12
                clear c12
                by_cases c13 : x11_1 < (x5_1.length : Int)
                · rw [if_pos c13] at H
                  have c13b0 : decide (x11_1 < (x5_1.length : Int)) = true := decide_eq_true c13
                  clear c13
                  obtain ⟨y673, hy673⟩ : ∃ y_ : List Int, y_ = (x5_1.set (x11_1 : Int).toNat ((ji11) % 256)) := ⟨_, rfl⟩
                  replace H : (impl_low.l0 k1 a0 y673 (y670.length : Int) (wrap64 (x11_1 + 1))) = some r := by first | (rw [hy673]; with_reducible exact H) | (have H2_ := (Option.bind_some _ _).symm.trans H; rw [hy673]; with_reducible exact H2_) | (have H2_ := (Option.bind_some _ _).symm.trans H; with_reducible exact H2_) | with_reducible exact H | (rw [hy673]; exact H) | exact H
                  have Ny673 := Aside0.mk hy673
                  clear hy673
                  have H' := Aside0.mk H
                  clear H
                  have p14 : 0 ≤ (x11_1 : Int) := of_decide_eq_true (by first | (with_reducible assumption) | assumption)
                  have q14 : (x11_1 : Int) < ((x5_1.length : Int) : Int) := of_decide_eq_true (by first | (with_reducible assumption) | assumption)
                  obtain ⟨go14, co14, eo14, gb14, gl14, cl14, HG14⟩ := Kd.R_form HO_5.out (by omega)
                  (first | cases eo14 | (injection eo14 with ea_ en_ ec_; (first | subst ea_ | (injection ea_ with ea_; subst ea_)); subst ec_; clear en_))
                  have GB14 := Aside0.mk gb14
                  have GG14 := Aside0.mk HG14
                  clear gb14 gl14 HG14
                  obtain ⟨hx14_0, hf14_0⟩ := Kd.R_celln 0 HO_5.out (x11_1 : Int) p14 q14
                  replace p14 := eq_true p14
                  replace q14 := eq_true q14
                  have HP15 := Kd.R_putg HO_5.out (x11_1 : Int) ((ji11) % 256)
                  go_wp2_with (first | ((with_reducible refine gate_store (t := 5) (p := 21) rfl ?_); refine store_event (t := 5) (p := 21) (v := ?vo_w16) (w1 := (wr.setCell ⟨go14, (x11_1 : Int).toNat, none⟩ (.int .u8 ((ji11) % 256)))) ?hg ?ho ?hn ?hr ?_; (case ho => rfl); (case hg => rfl); (case hn => rfl); (case hr => first | (go_simp; done) | (go_simp; rfl)); intro w16 hw; have hg : wr.grownBy w16 (some go14) := (by rw [hw]; exact HP15.2); have hp_ : Kd.R (Kd.int .u8) 5 w16 w.heap.size (fun _ => True) (.slice (some ⟨go14, 0, none⟩) x5_1.length co7) y673 := (by rw [hw, Ny673.out]; exact HP15.1); clear HP15; have n0_ := Aside0.mk (hp_); have n1_ := Aside0.mk ((by rw [hw]; exact below_set (HB.out) GB14.out : Below w.heap.size w w16)); clear HO_5; clear HB; have HO_5 := n0_; have HB := n1_; clear n0_ n1_; clear hg hw hp_))
                  (try simp only [← hl5_1])
                  go_roundg k1
                  case measure => have := HK1.out; omega
                  case rel => exact ⟨(y673), (wrap64 (x11_1 + 1)), (by first | rfl | (simp; done) | (simp [*]; done)), H', ⟨by have := HK1.out; omega⟩, ⟨by (try simp only [hl5_1]); (with_reducible repeat (first | apply Kd.R_alloc | apply Kd.R_drewN | apply Kd.R_drew)); exact HO_5.out⟩, ⟨by repeat (first | (with_reducible first | exact HB.out | apply below_alloc | apply pw_below_drewN | apply below_drew1) | exact HB.out)⟩⟩
                · rw [if_neg c13] at H
                  exact absurd H (by simp)
              · rw [if_neg c12] at H
                exact absurd H (by simp)
            · rw [if_neg c10] at H
              exact absurd H (by simp)
          · rw [if_neg c8] at H
            have c8b0 : decide (x11_1 < (y670.length : Int)) = false := decide_eq_false c8
            rw [hl5_1] at c8b0
            clear c8
            obtain rfl := Option.some.inj H
            go_wp2
            go_ret
            exact ⟨_, by first | rfl | (simp [errW_none, errW_some] <;> rfl) | (simp [*, errW_none, errW_some] <;> rfl), by (with_reducible repeat (first | apply Kd.R_alloc | apply Kd.R_drewN | apply Kd.R_drew)); exact HO_5.out, by repeat (first | (with_reducible first | exact HB.out | apply below_alloc | apply pw_below_drewN | apply below_drew1) | exact HB.out)⟩
    · rw [if_neg c4] at H
      exact absurd H (by simp)
  · rw [if_neg c3] at H
    exact absurd H (by simp)

end Go.Proofs.Ytlopmffdebhpfaa.G

/-! ## Shelf -/
namespace Go.Proofs
open Go.Shelf
def Try.laysSlK4_ren : Go.Shelf.Ren := ⟨fun | 4 => 72 | n => n, fun | 22 => 22 | 4 => 4 | 5 => 5 | n => n, fun | n => n⟩
theorem Try.laysSlK4 : Go.Proofs.SlLaysK.n4 Try.prog Try.laysSlK4_ren := {
  mixed := by kernel_rfl
  f4 := Try.func72.trans (congrArg some (by kernel_rfl))
  t4 := Try.underlying4
  a4 := Try.isAgg4
  z4 := Try.sizeOf4
  v4 := Try.zeroValue4
  t22 := Try.underlying22
  a22 := Try.isAgg22
  z22 := Try.sizeOf22
  v22 := Try.zeroValue22
  t5 := Try.underlying5
  i5 := by kernel_rfl }
open Go.RowKit Go.Lib in
theorem Try.bytes_Clone_at (a : Addr) (n c : Nat) (xs : List Int) (w : World) (hx : xs.length = n) (hbig : n ≤ 140737488355328) (hc : ∀ i, i < n → w.cell? (a.add i) = some (.int .u8 (xs.getD i 0))) :
    Calls Try.prog 72 #[.slice (some a) n c] w fun e w' => ∃ v', e = .returned v' ∧ w'.ownsRow w.heap.size 5 1 v' n (xs.map (Value.int .u8)) ∧ v' ≠ .slice none 0 0 ∧ Below w.heap.size w w' := Any.bytes_Clone_at Try.laysSlK4 a n c xs w hx hbig hc
open Go.RowKit Go.Lib in
theorem Try.bytes_Clone_nil (n c : Nat) (w : World) :
    Calls Try.prog 72 #[.slice none n c] w fun e w' => e = .returned (.slice none 0 0) ∧ w' = w := Any.bytes_Clone_nil Try.laysSlK4 n c w
def Try.laysSlJ14_ren : Go.Shelf.Ren := ⟨fun | 14 => 153 | 15 => 170 | n => n, fun | 26 => 36 | 22 => 22 | 3 => 3 | 4 => 4 | 0 => 0 | 9 => 9 | 20 => 20 | 5 => 5 | n => n, fun | n => n⟩
theorem Try.laysSlJ14 : Go.Proofs.SlLaysJ.n14 Try.prog Try.laysSlJ14_ren := {
  mixed := by kernel_rfl
  f14 := Try.func153.trans (congrArg some (by kernel_rfl))
  f15 := Try.func170.trans (congrArg some (by kernel_rfl))
  t0 := Try.underlying0
  a0 := Try.isAgg0
  z0 := Try.sizeOf0
  v0 := Try.zeroValue0
  t3 := Try.underlying3
  a3 := Try.isAgg3
  z3 := Try.sizeOf3
  v3 := Try.zeroValue3
  t4 := Try.underlying4
  a4 := Try.isAgg4
  z4 := Try.sizeOf4
  v4 := Try.zeroValue4
  t9 := Try.underlying9
  a9 := Try.isAgg9
  z9 := Try.sizeOf9
  v9 := Try.zeroValue9
  t20 := Try.underlying20
  a20 := Try.isAgg20
  z20 := Try.sizeOf20
  v20 := Try.zeroValue20
  t22 := Try.underlying22
  a22 := Try.isAgg22
  z22 := Try.sizeOf22
  v22 := Try.zeroValue22
  t26 := Try.underlying36
  a26 := Try.isAgg36
  z26 := Try.sizeOf36
  v26 := Try.zeroValue36
  t5 := Try.underlying5
  z5 := Try.sizeOf5
  i5 := by kernel_rfl }
open Go.RowKit Go.Lib in
theorem Try.bytes_Join_many (b o n c : Nat) (vs : List Value) (ls : List (List UInt8)) (sv : Value) (sep : List UInt8) (w : World) (hn : ls.length = n) (h2 : 2 ≤ n) (hP : Lib.PartsAt w ⟨b, o, none⟩ vs ls) (hcap : n ≤ c) (hS : Lib.HoldsBytes w sv sep) (hn47 : n ≤ 140737488355328) (hlen : Lib.lens ls + sep.length * (n - 1) ≤ 140737488355328) :
    Calls Try.prog 153 #[.slice (some ⟨b, o, none⟩) n c, sv] w fun e w' => ∃ v', e = .returned v' ∧ Lib.FreshBytes w.heap.size w' v' (Lib.join ls sep) ∧ Below w.heap.size w w' := Any.bytes_Join_many Try.laysSlJ14 b o n c vs ls sv sep w hn h2 hP hcap hS hn47 hlen
end Go.Proofs

/-! ## Lib1 -/
namespace Go.Proofs.Ytlopmffdebhpfaa.G
open Go.RowKit Go.Proofs.YtlopmffdebhpfaaW.PrintWords Go.Proofs.YtlopmffdebhpfaaW.PrintLast Go.Proofs.YtlopmffdebhpfaaW.PrintMore

/-- What a slice of numbers that is read holds, cell by cell. -/
theorem C_cells {k : IntKind} {w : World} {A : Option Addr} {n : Nat} {xs : List Int} (h : Kd.C (Kd.int k) w A n xs) :
    xs.length = n ∧ n ≤ 9223372036854775807 ∧ (0 < n → ∃ ad, A = some ad ∧ ∀ j x, xs[j]? = some x → w.cell? (ad.add j) = some (.int k x)) := by
  refine ⟨h.1, h.2.1, fun hn => ?_⟩
  obtain ⟨ad, e, hc⟩ := h.2.2 hn
  refine ⟨ad, e, fun j x hx => ?_⟩
  obtain ⟨c, _, hK, hcell⟩ := hc j x hx
  have hK' : c = [.int k x] := hK
  subst hK'
  have := hcell 0 _ rfl
  rwa [show (Kd.int k).sz = 1 from rfl, Nat.mul_one, Nat.add_zero] at this

theorem C_of_cells {k : IntKind} {w : World} {A : Option Addr} {xs : List Int} (hn : xs.length ≤ 9223372036854775807)
    (h : 0 < xs.length → ∃ ad, A = some ad ∧ ∀ j x, xs[j]? = some x → w.cell? (ad.add j) = some (.int k x)) : Kd.C (Kd.int k) w A xs.length xs := by
  refine ⟨rfl, hn, fun hp => ?_⟩
  obtain ⟨ad, e, hc⟩ := h hp
  refine ⟨ad, e, fun j x hx => ⟨[.int k x], rfl, rfl, fun i u hu => ?_⟩⟩
  have hi : i = 0 := by
    have := (List.getElem?_eq_some_iff.1 hu).1
    simp at this
    exact this
  subst hi
  obtain rfl : Value.int k x = u := by simpa using hu
  rw [show (Kd.int k).sz = 1 from rfl, Nat.mul_one, Nat.add_zero]
  exact hc j x hx

/-- Cells of one block tell a row that is read, as long as that block stays. -/
theorem F_of_cells {k : IntKind} {w : World} {ok : Nat → Prop} {g : Nat} {xs : List Int} (hg : ok g) (hn : xs.length ≤ 9223372036854775807)
    (hc : ∀ j x, xs[j]? = some x → w.cell? ⟨g, j, none⟩ = some (.int k x)) : Kd.F (Kd.int k) w ok (some ⟨g, 0, none⟩) xs.length xs := by
  intro W' hW
  refine C_of_cells hn (fun _ => ⟨_, rfl, fun j x hx => ?_⟩)
  rw [add_plain]
  have h1 := hc j x hx
  have hlt := World.block_lt_of_cell? w _ h1
  exact (World.cell?_of_block (w := w) (w' := W') (a := ⟨g, j, none⟩) (hW g hg hlt)).trans h1

theorem byte_back (x : Int) (h : 0 ≤ x ∧ x < 256) : ((UInt8.ofNat x.toNat).toNat : Int) = x := by
  rw [UInt8.toNat_ofNat', Nat.mod_eq_of_lt (by omega)]
  omega
theorem bytes_back : ∀ (l : List Int), (∀ x ∈ l, 0 ≤ x ∧ x < 256) → (Lib.bytesOf l).map (fun u => (u.toNat : Int)) = l
  | [], _ => rfl
  | x :: r, h => by
    have ih := bytes_back r (fun y hy => h y (List.mem_cons_of_mem _ hy))
    simp only [Lib.bytesOf, List.map_cons, List.map_map] at ih ⊢
    rw [byte_back x (h x List.mem_cons_self), ih]
theorem bytesOf_inj {l m : List Int} (hl : ∀ x ∈ l, 0 ≤ x ∧ x < 256) (hm : ∀ x ∈ m, 0 ≤ x ∧ x < 256) (h : Lib.bytesOf l = Lib.bytesOf m) : l = m := by
  rw [← bytes_back l hl, ← bytes_back m hm, h]
theorem bytesOf_flatten : ∀ (ls : List (List Int)), (ls.map Lib.bytesOf).flatten = Lib.bytesOf ls.flatten
  | [] => rfl
  | l :: r => by rw [List.map_cons, List.flatten_cons, bytesOf_flatten r, List.flatten_cons]; simp [Lib.bytesOf]
theorem join_empty : ∀ (ls : List (List UInt8)), Lib.join ls [] = ls.flatten
  | [] => rfl
  | [x] => by simp [Lib.join_one]
  | x :: y :: r => by
    have ih := join_empty (y :: r)
    unfold Lib.join at ih ⊢
    rw [List.intercalate, List.intersperse_cons_cons] at *
    simpa [List.intercalate] using ih

/-- bytes.Join at two parts or more, an empty separator, and bytes. -/
def bytes_Join.f (l0 : List (List Int)) (l1 : List Int) : Option (List Int) :=
  if 2 ≤ l0.length ∧ l1 = [] ∧ l0.length ≤ 1000000 ∧ l0.flatten.length ≤ 1000000 ∧ (∀ l ∈ l0, ∀ x ∈ l, 0 ≤ x ∧ x < 256) then some l0.flatten else none

theorem lens_bytes : ∀ (ls : List (List Int)), Lib.lens (ls.map Lib.bytesOf) = ls.flatten.length
  | [] => rfl
  | l :: r => by
    have ih := lens_bytes r
    simp only [Lib.lens, List.map_cons, List.sum_cons, List.flatten_cons, List.length_append] at ih ⊢
    rw [ih]; simp [Lib.bytesOf]

theorem bytes_Join.calls (A0 : Option Addr) (c0 : Nat) (l0 : List (List Int)) (A1 : Option Addr) (c1 : Nat) (l1 : List Int) (r : List Int) (w : World) (hr0 : Kd.C (Kd.slice 5 (Kd.int .u8)) w A0 l0.length l0) (hc0 : l0.length ≤ c0)
    (hr1 : Kd.C (Kd.int .u8) w A1 l1.length l1) (hc1 : l1.length ≤ c1) (h : bytes_Join.f l0 l1 = some r) :
    Calls Try.prog 153 #[.slice A0 l0.length c0, .slice A1 l1.length c1] w fun e w' => ∃ v0_ : Value, e = .returned (v0_) ∧ Kd.V (Kd.int .u8) 5 w' w.heap.size (fun k_ => (w.heap.size ≤ k_)) v0_ r ∧ Below w.heap.size w w' := by
  unfold bytes_Join.f at h
  split at h
  case isFalse => cases h
  rename_i hh
  obtain ⟨h2, rfl, hn, hl, hb⟩ := hh
  obtain rfl := Option.some.inj h
  obtain ⟨ad, rfl, hcells⟩ := hr0.2.2 (by omega)
  have hsl : ∀ j l, l0[j]? = some l → ∃ A c, w.cell? (ad.add j) = some (.slice A l.length c) ∧ l.length ≤ c ∧ Kd.C (Kd.int .u8) w A l.length l := by
    intro j l hj
    obtain ⟨c, _, ⟨A, c', hc', hlc, hC⟩, hcell⟩ := hcells j l hj
    subst hc'
    have := hcell 0 _ rfl
    rw [show (Kd.slice 5 (Kd.int .u8)).sz = 1 from rfl, Nat.mul_one, Nat.add_zero] at this
    exact ⟨A, c', this, hlc, hC⟩
  have hspot : ad.spot = none := by
    obtain ⟨l, hj⟩ : ∃ l, l0[0]? = some l := ⟨l0[0]'(by omega), by simp⟩
    obtain ⟨A, c, hcell, _⟩ := hsl 0 l hj
    have e : ad.add 0 = ad := by simp [Addr.add]
    rw [e] at hcell
    exact World.cell?_spot hcell
  obtain ⟨b, o, sp⟩ := ad
  simp only at hspot
  subst hspot
  let vs : List Value := (List.range l0.length).map fun j => (w.cell? ((⟨b, o, none⟩ : Addr).add j)).getD undef
  have hvs : ∀ j v, vs[j]? = some v → ∃ l, l0[j]? = some l ∧ ∃ A c, v = .slice A l.length c ∧ w.cell? ((⟨b, o, none⟩ : Addr).add j) = some v ∧ Kd.C (Kd.int .u8) w A l.length l := by
    intro j v hv
    have hj : j < l0.length := by
      have := (List.getElem?_eq_some_iff.1 hv).1
      simpa [vs] using this
    obtain ⟨A, c, hcell, _, hC⟩ := hsl j l0[j] (List.getElem?_eq_getElem hj)
    have hv' : v = .slice A l0[j].length c := by
      simp only [vs, List.getElem?_map, List.getElem?_range hj, Option.map_some, hcell, Option.getD_some, Option.some.injEq] at hv
      exact hv.symm
    exact ⟨l0[j], List.getElem?_eq_getElem hj, A, c, hv', by rw [hv']; exact hcell, hC⟩
  have hP : Lib.PartsAt w ⟨b, o, none⟩ vs (l0.map Lib.bytesOf) := by
    refine ⟨by simp [vs], fun j v hv => ?_, fun j v l hv hl' => ?_⟩
    · obtain ⟨_, _, _, _, _, hcell, _⟩ := hvs j v hv
      exact hcell
    · obtain ⟨m, hm, A, c, rfl, _, hC⟩ := hvs j v hv
      have hml : Lib.bytesOf m = l := by
        rw [List.getElem?_map, hm] at hl'
        simpa using hl'
      subst hml
      obtain ⟨_, _, hcs⟩ := C_cells hC
      have hmem : m ∈ l0 := List.mem_of_getElem? hm
      refine ⟨A, c, by simp [Lib.bytesOf], fun hA => ?_, fun a ha i x hx => ?_⟩
      · rcases Nat.eq_zero_or_pos m.length with h0 | hp
        · rw [List.eq_nil_of_length_eq_zero h0]; rfl
        · obtain ⟨ad', e, _⟩ := hcs hp
          rw [hA] at e; cases e
      · subst ha
        have hi : i < m.length := by
          have := (List.getElem?_eq_some_iff.1 hx).1
          simpa [Lib.bytesOf] using this
        obtain ⟨ad', e, hcc⟩ := hcs (by omega)
        obtain rfl := Option.some.inj e
        rw [hcc i m[i] (List.getElem?_eq_getElem hi)]
        have hxe : x = UInt8.ofNat m[i].toNat := by
          simp only [Lib.bytesOf, List.getElem?_map, List.getElem?_eq_getElem hi, Option.map_some, Option.some.injEq] at hx
          exact hx.symm
        rw [hxe, byte_back _ (hb m hmem _ (List.getElem_mem hi))]
  have hS : Lib.HoldsBytes w (.slice A1 ([] : List Int).length c1) [] := ⟨A1, c1, rfl, fun _ => rfl, fun a _ i x hx => by simp at hx⟩
  refine (Try.bytes_Join_many b o l0.length c0 vs (l0.map Lib.bytesOf) _ [] w (by simp) h2 hP hc0 hS (by omega) (by rw [lens_bytes, List.length_nil, Nat.zero_mul]; omega)).mono ?_
  rintro e w' ⟨v', rfl, hF, hbel⟩
  refine ⟨v', rfl, ?_, hbel⟩
  rw [join_empty, bytesOf_flatten] at hF
  obtain ⟨g, cap, zs, rfl, hg, hlc, _, hz, hzb, hze, hcell, _⟩ := hF
  have hbf : ∀ x ∈ l0.flatten, 0 ≤ x ∧ x < 256 := fun x hx => by
    obtain ⟨l, hl1, hl2⟩ := List.mem_flatten.1 hx
    exact hb l hl1 x hl2
  have hlen : (Lib.bytesOf l0.flatten).length = l0.flatten.length := by rw [Lib.bytesOf, List.length_map]
  rw [hlen] at hlc hze ⊢
  have hzt : zs.take l0.flatten.length = l0.flatten := bytesOf_inj (fun x hx => hzb x (List.mem_of_mem_take hx)) hbf hze
  refine Kd.V_mk hlc (F_of_cells hg (by omega) (fun j x hx => ?_))
  have hj : j < l0.flatten.length := (List.getElem?_eq_some_iff.1 hx).1
  rw [hcell j (by omega)]
  rw [← hzt, List.getElem?_take, if_pos hj] at hx
  rw [List.getD_eq_getElem?_getD, hx]
  rfl

/-- bytes.Clone. -/
def bytes_Clone.f (l0 : List Int) : Option (List Int) := if l0.length ≤ 140737488355328 then some l0 else none

theorem bytes_Clone.calls (A0 : Option Addr) (c0 : Nat) (l0 : List Int) (r : List Int) (w : World) (hr0 : Kd.C (Kd.int .u8) w A0 l0.length l0) (_hc0 : l0.length ≤ c0) (h : bytes_Clone.f l0 = some r) :
    Calls Try.prog 72 #[.slice A0 l0.length c0] w fun e w' => ∃ v0_ : Value, e = .returned (v0_) ∧ Kd.R (Kd.int .u8) 5 w' w.heap.size (fun _ => True) v0_ r ∧ Below w.heap.size w w' := by
  unfold bytes_Clone.f at h
  split at h
  case isFalse => cases h
  rename_i hb
  obtain rfl := Option.some.inj h
  obtain ⟨_, _, hcs⟩ := C_cells hr0
  cases A0 with
  | none =>
    have h0 : l0.length = 0 := by
      rcases Nat.eq_zero_or_pos l0.length with h0 | hp
      · exact h0
      · obtain ⟨_, e, _⟩ := hcs hp
        cases e
    refine (Try.bytes_Clone_nil l0.length c0 w).mono ?_
    rintro e w' ⟨rfl, rfl⟩
    rw [List.eq_nil_of_length_eq_zero h0]
    exact ⟨_, rfl, Kd.R_nil _ _ _ _ _, Below.refl _ _⟩
  | some ad =>
    refine (Try.bytes_Clone_at ad l0.length c0 l0 w rfl hb (fun i hi => ?_)).mono ?_
    · obtain ⟨ad', e, hcc⟩ := hcs (by omega)
      obtain rfl := Option.some.inj e
      rw [hcc i l0[i] (List.getElem?_eq_getElem hi)]
      simp [List.getD_eq_getElem?_getD, List.getElem?_eq_getElem hi]
    · rintro e w' ⟨v', rfl, ho, _, hbel⟩
      exact ⟨v', rfl, Kd.R_of_own ho (fun _ _ => trivial), hbel⟩
end Go.Proofs.Ytlopmffdebhpfaa.G

/-! ## Head -/
namespace Go.Proofs.Ytlopmffdebhpfaa.G
open Go.RowKit Go.Proofs.YtlopmffdebhpfaaW.PrintWords Go.Proofs.YtlopmffdebhpfaaW.PrintLast Go.Proofs.YtlopmffdebhpfaaW.PrintMore
attribute [local go_sem] max2_int min2_int max_two min_two max_three min_three max_four min_four
set_option linter.unusedVariables false
set_option linter.unusedSimpArgs false

/-! ### impl_head_bytes: function 134 -/
def impl_head_bytes.f (k : Nat) (a0_0 : Int) (a0_1 : Int) (a0_2 : Int) : Option (List Int) := (impl_low.f k a0_0 4).bind fun t731 => ((impl_low.f k a0_2 2).bind fun t737 => ((impl_low.f k 0 4).bind fun t740 => ((bytes_Join.f (([t731, (([(a0_1) % 256, 0] : List Int)), t737, t740] : List (List Int))) ([] : List Int)).bind fun t746 => (some t746))))
def impl_head_bytes.T1 : Bool × List (List Nat × List Nat) := (true, [([], []), ([0], [0]), ([1], [1]), ([], []), ([3], [3]), ([4], [4]), ([5], [5]), ([], []), ([7], [7]), ([8, 2], [8]), ([9], []), ([2, 6, 9, 10], [2, 6, 9, 10]), ([11, 10], [11]), ([12, 12, 0, 1, 2, 3, 4, 5, 6, 7, 8, 9, 10, 11, 12], [12])])
def impl_head_bytes.B1 : List Nat := [0, 1, 3, 0, 8, 24, 56, 0, 128, 391, 903, 2047, 4095, 8191]
theorem impl_head_bytes.tab1 : rtab .any (opsOf Try.f134 1) = impl_head_bytes.T1 := by kernel_rfl
theorem impl_head_bytes.bits1 : waitsOk impl_head_bytes.T1.2 impl_head_bytes.B1 = true := by kernel_rfl
set_option maxHeartbeats 8000000 in
set_option maxRecDepth 100000 in
theorem impl_head_bytes.calls (k : Nat) (a0_0 : Int) (a0_1 : Int) (a0_2 : Int) (r : List Int) (w : World) (h : impl_head_bytes.f k a0_0 a0_1 a0_2 = some r) :
    Calls Try.prog 134 #[.agg #[.int .i64 a0_0, .int .i64 a0_1, .int .i64 a0_2]] w fun e w' => ∃ v0_ : Value, e = .returned (v0_) ∧ Kd.V (Kd.int .u8) 5 w' w.heap.size (fun k_ => w.heap.size ≤ k_) v0_ r ∧ Below w.heap.size w w' := by
  have hu100 := Try.underlying100
  have HB := Aside0.mk (Below.refl w.heap.size w)
  have H : ((impl_low.f k a0_0 4).bind fun t731 => ((impl_low.f k a0_2 2).bind fun t737 => ((impl_low.f k 0 4).bind fun t740 => ((bytes_Join.f (([t731, (([(a0_1) % 256, 0] : List Int)), t737, t740] : List (List Int))) ([] : List Int)).bind fun t746 => (some t746))))) = some r := h
  clear h
  replace H := Option.bind_eq_some_iff.mp H
  obtain ⟨t731, A20, H⟩ := H
  replace H : ((impl_low.f k a0_2 2).bind fun t737 => ((impl_low.f k 0 4).bind fun t740 => ((bytes_Join.f (([t731, (([(a0_1) % 256, 0] : List Int)), t737, t740] : List (List Int))) ([] : List Int)).bind fun t746 => (some t746)))) = some r := H
  have A2 := Aside0.mk A20
  clear A20
  obtain ⟨y734, hy734⟩ : ∃ y_ : List Int, y_ = (([(a0_1) % 256, 0] : List Int)) := ⟨_, rfl⟩
  replace H : ((impl_low.f k a0_2 2).bind fun t737 => ((impl_low.f k 0 4).bind fun t740 => ((bytes_Join.f (([t731, y734, t737, t740] : List (List Int))) ([] : List Int)).bind fun t746 => (some t746)))) = some r := by first | (rw [hy734]; with_reducible exact H) | (have H2_ := (Option.bind_some _ _).symm.trans H; rw [hy734]; with_reducible exact H2_) | (have H2_ := (Option.bind_some _ _).symm.trans H; with_reducible exact H2_) | with_reducible exact H | (rw [hy734]; exact H) | exact H
  have Ny734 := Aside0.mk hy734
  clear hy734
  replace H := Option.bind_eq_some_iff.mp H
  obtain ⟨t737, A30, H⟩ := H
  replace H : ((impl_low.f k 0 4).bind fun t740 => ((bytes_Join.f (([t731, y734, t737, t740] : List (List Int))) ([] : List Int)).bind fun t746 => (some t746))) = some r := H
  have A3 := Aside0.mk A30
  clear A30
  replace H := Option.bind_eq_some_iff.mp H
  obtain ⟨t740, A40, H⟩ := H
  replace H : ((bytes_Join.f (([t731, y734, t737, t740] : List (List Int))) ([] : List Int)).bind fun t746 => (some t746)) = some r := H
  have A4 := Aside0.mk A40
  clear A40
  obtain ⟨y743, hy743⟩ : ∃ y_ : List (List Int), y_ = (([t731, y734, t737, t740] : List (List Int))) := ⟨_, rfl⟩
  replace H : ((bytes_Join.f y743 ([] : List Int)).bind fun t746 => (some t746)) = some r := by first | (rw [hy743]; with_reducible exact H) | (have H2_ := (Option.bind_some _ _).symm.trans H; rw [hy743]; with_reducible exact H2_) | (have H2_ := (Option.bind_some _ _).symm.trans H; with_reducible exact H2_) | with_reducible exact H | (rw [hy743]; exact H) | exact H
  have Ny743 := Aside0.mk hy743
  clear hy743
  replace H := Option.bind_eq_some_iff.mp H
  obtain ⟨t746, A50, H⟩ := H
  replace H : (some t746) = some r := H
  have A5 := Aside0.mk A50
  clear A50
  obtain rfl := Option.some.inj H
  go_enter Try.func134, Try.ntmps134
  try go_wp2_with (first | ((with_reducible refine gate_dst (N := 1) rfl ?_); refine box_event ?hg (N := 1) ?hd (cs := #[.int .i64 a0_0, .int .i64 a0_1, .int .i64 a0_2]) (t := 100) ?hr ?_; (case hd => rfl); (case hg => rfl); (case hr => first | (go_simp; done) | (go_simp; rfl)); intro gb730 hg w6 hbox hb; have n0_ := Aside0.mk (below_step (by repeat (first | (with_reducible first | exact HB.out | apply below_alloc | apply pw_below_drewN | apply below_drew1) | exact HB.out)) hb); have n1_ := Aside0.mk (hbox); have n2_ := Aside0.mk ((by rw [hg]; exact (below_size (by repeat (first | (with_reducible first | exact HB.out | apply below_alloc | apply pw_below_drewN | apply below_drew1) | exact HB.out))) : w.heap.size ≤ gb730)); have n3_ := Aside0.mk ((by rw [hg]; exact (below_size (by repeat (first | (with_reducible first | exact HB.out | apply below_alloc | apply pw_below_drewN | apply below_drew1) | exact HB.out))) : w.heap.size ≤ gb730)); clear HB; have HB := n0_; have BK730 := n1_; have GW730 := n2_; have GE730 := n3_; clear n0_ n1_ n2_ n3_; clear hb hbox hg))
  have n0_ := Aside0.mk (blk_drew BK730.out)
  have n1_ := Aside0.mk (below_drew1 HB.out)
  clear BK730
  clear HB
  have BK730 := n0_
  have HB := n1_
  clear n0_ n1_
  refine start_ (n := 14) (S := fun w' => True) (ds := []) #[false, false, false, false, false, false, false, false, false, false, false, false, false, false] (by kernel_rfl) rfl rfl trivial (fun hHeld => ?_); refine with_tabW impl_head_bytes.tab1 impl_head_bytes.bits1 (fun HT_ HW_ => ?_)
  generalize w6.drew = w7 at BK730 HB hHeld ⊢
  refine pure_ (i := 0) (N := some 3) (v := ?_) (a' := ?_) #[true, false, false, false, false, false, false, false, false, false, false, false, false, false] rfl rfl (any_of HT_.out (by kernel_rfl)) (fun _ _ _ h => h) (Or.inl ⟨by rfl, ?_⟩) ?_ ?_
  rotate_left
  · intro w'
    go_simp
    with_reducible rfl
  rotate_left
  · simp only [Act.put, List.setIfInBounds_toArray, List.set_cons_zero, List.set_cons_succ, i64_w, i32_w]
    rfl
  refine pure_ (i := 3) (N := some 6) (v := ?_) (a' := ?_) #[true, false, false, true, false, false, false, false, false, false, false, false, false, false] rfl rfl (any_of HT_.out (by kernel_rfl)) (fun _ _ _ h => h) (Or.inl ⟨by rfl, ?_⟩) ?_ ?_
  rotate_left
  · intro w'
    go_simp
    with_reducible rfl
  rotate_left
  · simp only [Act.put, List.setIfInBounds_toArray, List.set_cons_zero, List.set_cons_succ, i64_w, i32_w]
    rfl
  refine pure_ (i := 7) (N := some 10) (v := ?_) (a' := ?_) #[true, false, false, true, false, false, false, true, false, false, false, false, false, false] rfl rfl (any_of HT_.out (by kernel_rfl)) (fun _ _ _ h => h) (Or.inl ⟨by rfl, ?_⟩) ?_ ?_
  rotate_left
  · intro w'
    go_simp
    with_reducible rfl
  rotate_left
  · simp only [Act.put, List.setIfInBounds_toArray, List.set_cons_zero, List.set_cons_succ, i64_w, i32_w]
    rfl
  refine inv_at [1, 2, 4, 5, 6, 8, 9, 10, 11, 12, 13] (fun a0_ b a w' => ∃ (v732 : Value) (v735 : Value) (v738 : Value) (v741 : Value) (v744 : Value) (v747 : Value) (m13_ : Value), a = putSel a0_ b [(1, 4, .int .i64 a0_0), (2, 5, v732), (4, 7, .int .i64 a0_1), (5, 8, .int .u8 ((a0_1) % 256)), (6, 9, v735), (8, 11, .int .i64 a0_2), (9, 12, v738), (10, 13, v741), (11, 14, v744), (12, 15, v747), (13, 2, m13_)] ∧ (w'.heap[gb730]? = some (.cells #[.int .i64 a0_0, .int .i64 a0_1, .int .i64 a0_2] 100 (0, 0))) ∧ (Below w.heap.size w w') ∧ (b 2 = true → b 11 = false → Kd.R (Kd.int .u8) 5 w' w.heap.size (fun _ => True) v732 t731) ∧ (b 6 = true → b 11 = false → Kd.R (Kd.int .u8) 5 w' w.heap.size (fun _ => True) v735 y734) ∧ (b 9 = true → b 11 = false → Kd.R (Kd.int .u8) 5 w' w.heap.size (fun _ => True) v738 t737) ∧ (b 10 = true → b 11 = false → Kd.R (Kd.int .u8) 5 w' w.heap.size (fun _ => True) v741 t740) ∧ (b 11 = true → Kd.N (Kd.slice 5 (Kd.int .u8)) 22 w' w.heap.size (fun k_ => k_ ≠ gb730) v744 y743) ∧ (b 12 = true → Kd.V (Kd.int .u8) 5 w' w.heap.size (fun k_ => w.heap.size ≤ k_) v747 t746) ∧ (b 13 = true → (m13_ : Value) = v747)) HT_.out HW_.out (by kernel_rfl) (by kernel_rfl) ?_ ?_ ?_
  · exact ⟨.bool false, .bool false, .bool false, .bool false, .bool false, .bool false, .bool false, by simp only [putSel, Bool.false_eq_true, if_false], BK730.out, HB.out, fun h_ => absurd h_ (by decide), fun h_ => absurd h_ (by decide), fun h_ => absurd h_ (by decide), fun h_ => absurd h_ (by decide), fun h_ => absurd h_ (by decide), fun h_ => absurd h_ (by decide), fun h_ => absurd h_ (by decide)⟩
  · skip
    clear BK730 HB
    refine steps_cons ?_ ?_
    · rintro b a w' ⟨v732, v735, v738, v741, v744, v747, m13_, ha, Q_BK730, Q_HB, Q_HO733, Q_HO736, Q_HO739, Q_HO742, Q_HO745, Q_HO748, Q_X13_⟩ hb_ hon hoff
      refine ⟨_, rfl, fun K hK => ?_⟩
      have e3 : a.tmps[3]? = some (.pointer (some ⟨gb730, 0, none⟩)) := by rw [ha]; exact (putSel_off rfl).trans rfl
      replace ha := Aside0.mk ha
      have BK730 := Aside0.mk Q_BK730
      have HB := Aside0.mk Q_HB
      have hc0_ : w'.cell? ⟨gb730, 0, none⟩ = some (.int .i64 a0_0) := (blk_cell BK730.out 0).trans rfl
      have hc1_ : w'.cell? ⟨gb730, 1, none⟩ = some (.int .i64 a0_1) := (blk_cell BK730.out 1).trans rfl
      have hc2_ : w'.cell? ⟨gb730, 2, none⟩ = some (.int .i64 a0_2) := (blk_cell BK730.out 2).trans rfl
      refine value_ (w1 := w') (v := .int .i64 a0_0) (by rfl) rfl ?_ ?_
      · go_simp
        (try simp only [i64_w])
        try rfl
      refine hK.out _ _ ⟨v732, v735, v738, v741, v744, v747, m13_, (by rw [ha.out]; exact putSel_upk 0 hb_ rfl rfl rfl), Q_BK730, Q_HB, fun h0_ _ => absurd ((hoff 2 (by kernel_rfl)).symm.trans h0_) (by decide), Q_HO736, fun h0_ _ => absurd ((hoff 9 (by kernel_rfl)).symm.trans h0_) (by decide), fun h0_ _ => absurd ((hoff 10 (by kernel_rfl)).symm.trans h0_) (by decide), fun h0_ => absurd ((hoff 11 (by kernel_rfl)).symm.trans h0_) (by decide), fun h0_ => absurd ((hoff 12 (by kernel_rfl)).symm.trans h0_) (by decide), fun h0_ => absurd ((hoff 13 (by kernel_rfl)).symm.trans h0_) (by decide)⟩
    refine steps_cons ?_ ?_
    · rintro b a w' ⟨v732, v735, v738, v741, v744, v747, m13_, ha, Q_BK730, Q_HB, Q_HO733, Q_HO736, Q_HO739, Q_HO742, Q_HO745, Q_HO748, Q_X13_⟩ hb_ hon hoff
      refine ⟨_, rfl, fun K hK => ?_⟩
      have e4 : a.tmps[4]? = some (.int .i64 a0_0) := by rw [ha]; exact putSel_on (e := (1, 4, .int .i64 a0_0)) 0 rfl rfl (hon 1 (by kernel_rfl)) rfl
      replace ha := Aside0.mk ha
      have BK730 := Aside0.mk Q_BK730
      have HB := Aside0.mk Q_HB
      refine goes_ Try.func135 (by kernel_rfl) rfl #[.int .i64 a0_0, .int .i64 4] (by rfl) rfl rfl (by first | (simp only [List.map_toArray, List.map_cons, List.map_nil, Act.eval, Array.getD_eq_getD_getElem?, Option.getD_some, e4]; done) | (simp only [List.map_toArray, List.map_cons, List.map_nil, Act.eval, Array.getD_eq_getD_getElem?, Option.getD_some, e4]; rfl)) ?_
      with_reducible refine (impl_low.calls k a0_0 4 t731 _ A2.out).mono ?_
      rintro e w8 ⟨v732, rfl, ho0, hb⟩
      refine ⟨_, rfl, ?_⟩
      have n0_ := Aside0.mk (Kd.R_lower ho0 (below_size (by repeat (first | (with_reducible first | exact HB.out | apply below_alloc | apply pw_below_drewN | apply below_drew1 | refine below_set ?_ GE730.out) | exact HB.out))))
      have n1_ := Aside0.mk (blk_below (g := gb730) (o := .cells #[.int .i64 a0_0, .int .i64 a0_1, .int .i64 a0_2] 100 (0, 0)) (by (with_reducible repeat (first | refine blk_drewN ?_ _ | refine blk_drew ?_ | refine blk_alloc ?_ _)); exact BK730.out) hb)
      have n2_ := Aside0.mk (below_step (by repeat (first | (with_reducible first | exact HB.out | apply below_alloc | apply pw_below_drewN | apply below_drew1 | refine below_set ?_ GE730.out) | exact HB.out)) hb)
      have z_HO736 := fun (h0_ : b 6 = true) (h1_ : b 11 = false) => (show Kd.R (Kd.int .u8) 5 w8 w.heap.size (fun _ => True) v735 y734 from by first | exact (Kd.R_elder' (by (with_reducible repeat (first | apply Kd.R_alloc | apply Kd.R_drewN | apply Kd.R_drew)); exact (Q_HO736 h0_ h1_)) (Kd.R_base ho0) hb) | exact Kd.R_mono (Kd.R_elder' (by (with_reducible repeat (first | apply Kd.R_alloc | apply Kd.R_drewN | apply Kd.R_drew)); exact (Q_HO736 h0_ h1_)) (Kd.R_base ho0) hb) (fun _ h_ => by first | trivial | exact h_ | exact h_.1))
      clear BK730
      clear HB
      have HO733 := n0_
      have BK730 := n1_
      have HB := n2_
      clear n0_ n1_ n2_
      (try clear hb)
      (try clear hb2)
      (try clear hk)
      (try clear hi)
      (try clear ho0)
      refine hK.out _ _ ⟨v732, v735, v738, v741, v744, v747, m13_, (by rw [ha.out]; exact putSel_upk 1 hb_ rfl rfl rfl), (by (with_reducible repeat (first | refine blk_drewN ?_ _ | refine blk_drew ?_ | refine blk_alloc ?_ _)); exact BK730.out), (by repeat (first | (with_reducible first | exact HB.out | apply below_alloc | apply pw_below_drewN | apply below_drew1 | refine below_set ?_ GE730.out) | exact HB.out)), fun _ _ => (by (with_reducible repeat (first | apply Kd.R_alloc | apply Kd.R_drewN | apply Kd.R_drew)); exact HO733.out), z_HO736, fun h0_ _ => absurd ((hoff 9 (by kernel_rfl)).symm.trans h0_) (by decide), fun h0_ _ => absurd ((hoff 10 (by kernel_rfl)).symm.trans h0_) (by decide), fun h0_ => absurd ((hoff 11 (by kernel_rfl)).symm.trans h0_) (by decide), fun h0_ => absurd ((hoff 12 (by kernel_rfl)).symm.trans h0_) (by decide), fun h0_ => absurd ((hoff 13 (by kernel_rfl)).symm.trans h0_) (by decide)⟩
    refine steps_cons ?_ ?_
    · rintro b a w' ⟨v732, v735, v738, v741, v744, v747, m13_, ha, Q_BK730, Q_HB, Q_HO733, Q_HO736, Q_HO739, Q_HO742, Q_HO745, Q_HO748, Q_X13_⟩ hb_ hon hoff
      refine ⟨_, rfl, fun K hK => ?_⟩
      have e6 : a.tmps[6]? = some (.pointer (some ⟨gb730, 1, none⟩)) := by rw [ha]; exact (putSel_off rfl).trans rfl
      replace ha := Aside0.mk ha
      have BK730 := Aside0.mk Q_BK730
      have HB := Aside0.mk Q_HB
      have hc0_ : w'.cell? ⟨gb730, 0, none⟩ = some (.int .i64 a0_0) := (blk_cell BK730.out 0).trans rfl
      have hc1_ : w'.cell? ⟨gb730, 1, none⟩ = some (.int .i64 a0_1) := (blk_cell BK730.out 1).trans rfl
      have hc2_ : w'.cell? ⟨gb730, 2, none⟩ = some (.int .i64 a0_2) := (blk_cell BK730.out 2).trans rfl
      refine value_ (w1 := w') (v := .int .i64 a0_1) (by rfl) rfl ?_ ?_
      · go_simp
        (try simp only [i64_w])
        try rfl
      refine hK.out _ _ ⟨v732, v735, v738, v741, v744, v747, m13_, (by rw [ha.out]; exact putSel_upk 2 hb_ rfl rfl rfl), Q_BK730, Q_HB, Q_HO733, fun h0_ _ => absurd ((hoff 6 (by kernel_rfl)).symm.trans h0_) (by decide), Q_HO739, Q_HO742, fun h0_ => absurd ((hoff 11 (by kernel_rfl)).symm.trans h0_) (by decide), fun h0_ => absurd ((hoff 12 (by kernel_rfl)).symm.trans h0_) (by decide), fun h0_ => absurd ((hoff 13 (by kernel_rfl)).symm.trans h0_) (by decide)⟩
    refine steps_cons ?_ ?_
    · rintro b a w' ⟨v732, v735, v738, v741, v744, v747, m13_, ha, Q_BK730, Q_HB, Q_HO733, Q_HO736, Q_HO739, Q_HO742, Q_HO745, Q_HO748, Q_X13_⟩ hb_ hon hoff
      refine ⟨_, rfl, fun K hK => ?_⟩
      have e7 : a.tmps[7]? = some (.int .i64 a0_1) := by rw [ha]; exact putSel_on (e := (4, 7, .int .i64 a0_1)) 2 rfl rfl (hon 4 (by kernel_rfl)) rfl
      replace ha := Aside0.mk ha
      have BK730 := Aside0.mk Q_BK730
      have HB := Aside0.mk Q_HB
      refine value_ (w1 := w') (v := .int .u8 ((a0_1) % 256)) (by rfl) rfl ?_ ?_
      · go_simp
        (try simp only [i64_w])
        try rfl
      refine hK.out _ _ ⟨v732, v735, v738, v741, v744, v747, m13_, (by rw [ha.out]; exact putSel_upk 3 hb_ rfl rfl rfl), Q_BK730, Q_HB, Q_HO733, fun h0_ _ => absurd ((hoff 6 (by kernel_rfl)).symm.trans h0_) (by decide), Q_HO739, Q_HO742, fun h0_ => absurd ((hoff 11 (by kernel_rfl)).symm.trans h0_) (by decide), fun h0_ => absurd ((hoff 12 (by kernel_rfl)).symm.trans h0_) (by decide), fun h0_ => absurd ((hoff 13 (by kernel_rfl)).symm.trans h0_) (by decide)⟩
    refine steps_cons ?_ ?_
    · rintro b a w' ⟨v732, v735, v738, v741, v744, v747, m13_, ha, Q_BK730, Q_HB, Q_HO733, Q_HO736, Q_HO739, Q_HO742, Q_HO745, Q_HO748, Q_X13_⟩ hb_ hon hoff
      refine ⟨_, rfl, fun K hK => ?_⟩
      have e8 : a.tmps[8]? = some (.int .u8 ((a0_1) % 256)) := by rw [ha]; exact putSel_on (e := (5, 8, .int .u8 ((a0_1) % 256))) 3 rfl rfl (hon 5 (by kernel_rfl)) rfl
      replace ha := Aside0.mk ha
      have BK730 := Aside0.mk Q_BK730
      have HB := Aside0.mk Q_HB
      refine Kd.R_lit_step (Kd.int .u8) _ 5 ?hg (N := 9) ?hd (xs := ([(a0_1) % 256, 0] : List Int)) (inner := [.int .u8 ((a0_1) % 256), .int .u8 0]) (ok := fun _ => True) (okp := fun _ => True) ?hr ?hp (fun _ hk => hk) trivial (Below.refl _ _) (Nat.le_refl _) (by simp) ?_; (case hd => rfl); (case hg => rfl); (case hr => first | (go_simp; done) | (go_simp; rfl)); (case hp => exact (Reps.one (show Kd.M (Kd.int .u8) _ _ _ ((a0_1) % 256) [.int .u8 ((a0_1) % 256)] from rfl) (Reps.one (show Kd.M (Kd.int .u8) _ _ _ 0 [.int .u8 0] from rfl) (Reps.none _ _))))
      intro v735 w8 ho9 hb hg_ hnew_
      clear hg_ hnew_
      (first | rw [← Ny734.out] at ho9 | (simp only [Int.reduceToNat] at ho9; rw [← Ny734.out] at ho9))
      have n0_ := Aside0.mk (Kd.R_lower ho9 (below_size (by repeat (first | (with_reducible first | exact HB.out | apply below_alloc | apply pw_below_drewN | apply below_drew1 | refine below_set ?_ GE730.out) | exact HB.out))))
      have n1_ := Aside0.mk (blk_below (g := gb730) (o := .cells #[.int .i64 a0_0, .int .i64 a0_1, .int .i64 a0_2] 100 (0, 0)) (by (with_reducible repeat (first | refine blk_drewN ?_ _ | refine blk_drew ?_ | refine blk_alloc ?_ _)); exact BK730.out) hb)
      have n2_ := Aside0.mk (below_step (by repeat (first | (with_reducible first | exact HB.out | apply below_alloc | apply pw_below_drewN | apply below_drew1 | refine below_set ?_ GE730.out) | exact HB.out)) hb)
      have z_HO733 := fun (h0_ : b 2 = true) (h1_ : b 11 = false) => (show Kd.R (Kd.int .u8) 5 w8 w.heap.size (fun _ => True) v732 t731 from by first | exact (Kd.R_elder' (by (with_reducible repeat (first | apply Kd.R_alloc | apply Kd.R_drewN | apply Kd.R_drew)); exact (Q_HO733 h0_ h1_)) (Kd.R_base ho9) hb) | exact Kd.R_mono (Kd.R_elder' (by (with_reducible repeat (first | apply Kd.R_alloc | apply Kd.R_drewN | apply Kd.R_drew)); exact (Q_HO733 h0_ h1_)) (Kd.R_base ho9) hb) (fun _ h_ => by first | trivial | exact h_ | exact h_.1))
      have z_HO739 := fun (h0_ : b 9 = true) (h1_ : b 11 = false) => (show Kd.R (Kd.int .u8) 5 w8 w.heap.size (fun _ => True) v738 t737 from by first | exact (Kd.R_elder' (by (with_reducible repeat (first | apply Kd.R_alloc | apply Kd.R_drewN | apply Kd.R_drew)); exact (Q_HO739 h0_ h1_)) (Kd.R_base ho9) hb) | exact Kd.R_mono (Kd.R_elder' (by (with_reducible repeat (first | apply Kd.R_alloc | apply Kd.R_drewN | apply Kd.R_drew)); exact (Q_HO739 h0_ h1_)) (Kd.R_base ho9) hb) (fun _ h_ => by first | trivial | exact h_ | exact h_.1))
      have z_HO742 := fun (h0_ : b 10 = true) (h1_ : b 11 = false) => (show Kd.R (Kd.int .u8) 5 w8 w.heap.size (fun _ => True) v741 t740 from by first | exact (Kd.R_elder' (by (with_reducible repeat (first | apply Kd.R_alloc | apply Kd.R_drewN | apply Kd.R_drew)); exact (Q_HO742 h0_ h1_)) (Kd.R_base ho9) hb) | exact Kd.R_mono (Kd.R_elder' (by (with_reducible repeat (first | apply Kd.R_alloc | apply Kd.R_drewN | apply Kd.R_drew)); exact (Q_HO742 h0_ h1_)) (Kd.R_base ho9) hb) (fun _ h_ => by first | trivial | exact h_ | exact h_.1))
      clear BK730
      clear HB
      have HO736 := n0_
      have BK730 := n1_
      have HB := n2_
      clear n0_ n1_ n2_
      clear hb ho9
      refine hK.out _ _ ⟨v732, v735, v738, v741, v744, v747, m13_, (by rw [ha.out]; exact putSel_upk 4 hb_ rfl rfl rfl), (by (with_reducible repeat (first | refine blk_drewN ?_ _ | refine blk_drew ?_ | refine blk_alloc ?_ _)); exact BK730.out), (by repeat (first | (with_reducible first | exact HB.out | apply below_alloc | apply pw_below_drewN | apply below_drew1 | refine below_set ?_ GE730.out) | exact HB.out)), z_HO733, fun _ _ => (by (with_reducible repeat (first | apply Kd.R_alloc | apply Kd.R_drewN | apply Kd.R_drew)); exact HO736.out), z_HO739, z_HO742, fun h0_ => absurd ((hoff 11 (by kernel_rfl)).symm.trans h0_) (by decide), fun h0_ => absurd ((hoff 12 (by kernel_rfl)).symm.trans h0_) (by decide), fun h0_ => absurd ((hoff 13 (by kernel_rfl)).symm.trans h0_) (by decide)⟩
    refine steps_cons ?_ ?_
    · rintro b a w' ⟨v732, v735, v738, v741, v744, v747, m13_, ha, Q_BK730, Q_HB, Q_HO733, Q_HO736, Q_HO739, Q_HO742, Q_HO745, Q_HO748, Q_X13_⟩ hb_ hon hoff
      refine ⟨_, rfl, fun K hK => ?_⟩
      have e10 : a.tmps[10]? = some (.pointer (some ⟨gb730, 2, none⟩)) := by rw [ha]; exact (putSel_off rfl).trans rfl
      replace ha := Aside0.mk ha
      have BK730 := Aside0.mk Q_BK730
      have HB := Aside0.mk Q_HB
      have hc0_ : w'.cell? ⟨gb730, 0, none⟩ = some (.int .i64 a0_0) := (blk_cell BK730.out 0).trans rfl
      have hc1_ : w'.cell? ⟨gb730, 1, none⟩ = some (.int .i64 a0_1) := (blk_cell BK730.out 1).trans rfl
      have hc2_ : w'.cell? ⟨gb730, 2, none⟩ = some (.int .i64 a0_2) := (blk_cell BK730.out 2).trans rfl
      refine value_ (w1 := w') (v := .int .i64 a0_2) (by rfl) rfl ?_ ?_
      · go_simp
        (try simp only [i64_w])
        try rfl
      refine hK.out _ _ ⟨v732, v735, v738, v741, v744, v747, m13_, (by rw [ha.out]; exact putSel_upk 5 hb_ rfl rfl rfl), Q_BK730, Q_HB, Q_HO733, Q_HO736, fun h0_ _ => absurd ((hoff 9 (by kernel_rfl)).symm.trans h0_) (by decide), fun h0_ _ => absurd ((hoff 10 (by kernel_rfl)).symm.trans h0_) (by decide), fun h0_ => absurd ((hoff 11 (by kernel_rfl)).symm.trans h0_) (by decide), fun h0_ => absurd ((hoff 12 (by kernel_rfl)).symm.trans h0_) (by decide), fun h0_ => absurd ((hoff 13 (by kernel_rfl)).symm.trans h0_) (by decide)⟩
    refine steps_cons ?_ ?_
    · rintro b a w' ⟨v732, v735, v738, v741, v744, v747, m13_, ha, Q_BK730, Q_HB, Q_HO733, Q_HO736, Q_HO739, Q_HO742, Q_HO745, Q_HO748, Q_X13_⟩ hb_ hon hoff
      refine ⟨_, rfl, fun K hK => ?_⟩
      have e11 : a.tmps[11]? = some (.int .i64 a0_2) := by rw [ha]; exact putSel_on (e := (8, 11, .int .i64 a0_2)) 5 rfl rfl (hon 8 (by kernel_rfl)) rfl
      replace ha := Aside0.mk ha
      have BK730 := Aside0.mk Q_BK730
      have HB := Aside0.mk Q_HB
      have HO733 := Aside0.mk (Q_HO733 (hon 2 (by kernel_rfl)) (hoff 11 (by kernel_rfl)))
      refine goes_ Try.func135 (by kernel_rfl) rfl #[.int .i64 a0_2, .int .i64 2] (by rfl) rfl rfl (by first | (simp only [List.map_toArray, List.map_cons, List.map_nil, Act.eval, Array.getD_eq_getD_getElem?, Option.getD_some, e11]; done) | (simp only [List.map_toArray, List.map_cons, List.map_nil, Act.eval, Array.getD_eq_getD_getElem?, Option.getD_some, e11]; rfl)) ?_
      with_reducible refine (impl_low.calls k a0_2 2 t737 _ A3.out).mono ?_
      rintro e w10 ⟨v738, rfl, ho0, hb⟩
      refine ⟨_, rfl, ?_⟩
      have n0_ := Aside0.mk (Kd.R_elder' (by (with_reducible repeat (first | apply Kd.R_alloc | apply Kd.R_drewN | apply Kd.R_drew)); exact HO733.out) (Kd.R_base ho0) hb)
      have n1_ := Aside0.mk (Kd.R_lower (Kd.R_new' ho0 (Kd.R_lt (by (with_reducible repeat (first | apply Kd.R_alloc | apply Kd.R_drewN | apply Kd.R_drew)); exact HO733.out))) (below_size (by repeat (first | (with_reducible first | exact HB.out | apply below_alloc | apply pw_below_drewN | apply below_drew1 | refine below_set ?_ GE730.out) | exact HB.out))))
      have n2_ := Aside0.mk (blk_below (g := gb730) (o := .cells #[.int .i64 a0_0, .int .i64 a0_1, .int .i64 a0_2] 100 (0, 0)) (by (with_reducible repeat (first | refine blk_drewN ?_ _ | refine blk_drew ?_ | refine blk_alloc ?_ _)); exact BK730.out) hb)
      have n3_ := Aside0.mk (below_step (by repeat (first | (with_reducible first | exact HB.out | apply below_alloc | apply pw_below_drewN | apply below_drew1 | refine below_set ?_ GE730.out) | exact HB.out)) hb)
      have z_HO736 := fun (h0_ : b 6 = true) (h1_ : b 11 = false) => (show Kd.R (Kd.int .u8) 5 w10 w.heap.size (fun _ => True) v735 y734 from by first | exact (Kd.R_elder' (by (with_reducible repeat (first | apply Kd.R_alloc | apply Kd.R_drewN | apply Kd.R_drew)); exact (Q_HO736 h0_ h1_)) (Kd.R_base ho0) hb) | exact Kd.R_mono (Kd.R_elder' (by (with_reducible repeat (first | apply Kd.R_alloc | apply Kd.R_drewN | apply Kd.R_drew)); exact (Q_HO736 h0_ h1_)) (Kd.R_base ho0) hb) (fun _ h_ => by first | trivial | exact h_ | exact h_.1))
      clear HO733
      clear BK730
      clear HB
      have HO733 := n0_
      have HO739 := n1_
      have BK730 := n2_
      have HB := n3_
      clear n0_ n1_ n2_ n3_
      (try clear hb)
      (try clear hb2)
      (try clear hk)
      (try clear hi)
      (try clear ho0)
      refine hK.out _ _ ⟨v732, v735, v738, v741, v744, v747, m13_, (by rw [ha.out]; exact putSel_upk 6 hb_ rfl rfl rfl), (by (with_reducible repeat (first | refine blk_drewN ?_ _ | refine blk_drew ?_ | refine blk_alloc ?_ _)); exact BK730.out), (by repeat (first | (with_reducible first | exact HB.out | apply below_alloc | apply pw_below_drewN | apply below_drew1 | refine below_set ?_ GE730.out) | exact HB.out)), fun _ _ => (by (with_reducible repeat (first | apply Kd.R_alloc | apply Kd.R_drewN | apply Kd.R_drew)); exact Kd.R_mono HO733.out (fun _ _ => trivial)), z_HO736, fun _ _ => (by (with_reducible repeat (first | apply Kd.R_alloc | apply Kd.R_drewN | apply Kd.R_drew)); exact Kd.R_mono HO739.out (fun _ _ => trivial)), fun h0_ _ => absurd ((hoff 10 (by kernel_rfl)).symm.trans h0_) (by decide), fun h0_ => absurd ((hoff 11 (by kernel_rfl)).symm.trans h0_) (by decide), fun h0_ => absurd ((hoff 12 (by kernel_rfl)).symm.trans h0_) (by decide), fun h0_ => absurd ((hoff 13 (by kernel_rfl)).symm.trans h0_) (by decide)⟩
    refine steps_cons ?_ ?_
    · rintro b a w' ⟨v732, v735, v738, v741, v744, v747, m13_, ha, Q_BK730, Q_HB, Q_HO733, Q_HO736, Q_HO739, Q_HO742, Q_HO745, Q_HO748, Q_X13_⟩ hb_ hon hoff
      refine ⟨_, rfl, fun K hK => ?_⟩
      replace ha := Aside0.mk ha
      have BK730 := Aside0.mk Q_BK730
      have HB := Aside0.mk Q_HB
      have HO733 := Aside0.mk (Q_HO733 (hon 2 (by kernel_rfl)) (hoff 11 (by kernel_rfl)))
      have HO739 := Aside0.mk (Q_HO739 (hon 9 (by kernel_rfl)) (hoff 11 (by kernel_rfl)))
      refine goes_ Try.func135 (by kernel_rfl) rfl #[.int .i64 0, .int .i64 4] (by rfl) rfl rfl (by first | (simp only [List.map_toArray, List.map_cons, List.map_nil, Act.eval, Array.getD_eq_getD_getElem?, Option.getD_some]; done) | (simp only [List.map_toArray, List.map_cons, List.map_nil, Act.eval, Array.getD_eq_getD_getElem?, Option.getD_some]; rfl)) ?_
      with_reducible refine (impl_low.calls k 0 4 t740 _ A4.out).mono ?_
      rintro e w11 ⟨v741, rfl, ho0, hb⟩
      refine ⟨_, rfl, ?_⟩
      have n0_ := Aside0.mk (Kd.R_elder' (by (with_reducible repeat (first | apply Kd.R_alloc | apply Kd.R_drewN | apply Kd.R_drew)); exact HO733.out) (Kd.R_base ho0) hb)
      have n1_ := Aside0.mk (Kd.R_elder' (by (with_reducible repeat (first | apply Kd.R_alloc | apply Kd.R_drewN | apply Kd.R_drew)); exact HO739.out) (Kd.R_base ho0) hb)
      have n2_ := Aside0.mk (Kd.R_lower (Kd.R_new' (Kd.R_new' ho0 (Kd.R_lt (by (with_reducible repeat (first | apply Kd.R_alloc | apply Kd.R_drewN | apply Kd.R_drew)); exact HO733.out))) (Kd.R_lt (by (with_reducible repeat (first | apply Kd.R_alloc | apply Kd.R_drewN | apply Kd.R_drew)); exact HO739.out))) (below_size (by repeat (first | (with_reducible first | exact HB.out | apply below_alloc | apply pw_below_drewN | apply below_drew1 | refine below_set ?_ GE730.out) | exact HB.out))))
      have n3_ := Aside0.mk (blk_below (g := gb730) (o := .cells #[.int .i64 a0_0, .int .i64 a0_1, .int .i64 a0_2] 100 (0, 0)) (by (with_reducible repeat (first | refine blk_drewN ?_ _ | refine blk_drew ?_ | refine blk_alloc ?_ _)); exact BK730.out) hb)
      have n4_ := Aside0.mk (below_step (by repeat (first | (with_reducible first | exact HB.out | apply below_alloc | apply pw_below_drewN | apply below_drew1 | refine below_set ?_ GE730.out) | exact HB.out)) hb)
      have z_HO736 := fun (h0_ : b 6 = true) (h1_ : b 11 = false) => (show Kd.R (Kd.int .u8) 5 w11 w.heap.size (fun _ => True) v735 y734 from by first | exact (Kd.R_elder' (by (with_reducible repeat (first | apply Kd.R_alloc | apply Kd.R_drewN | apply Kd.R_drew)); exact (Q_HO736 h0_ h1_)) (Kd.R_base ho0) hb) | exact Kd.R_mono (Kd.R_elder' (by (with_reducible repeat (first | apply Kd.R_alloc | apply Kd.R_drewN | apply Kd.R_drew)); exact (Q_HO736 h0_ h1_)) (Kd.R_base ho0) hb) (fun _ h_ => by first | trivial | exact h_ | exact h_.1))
      clear HO733
      clear HO739
      clear BK730
      clear HB
      have HO733 := n0_
      have HO739 := n1_
      have HO742 := n2_
      have BK730 := n3_
      have HB := n4_
      clear n0_ n1_ n2_ n3_ n4_
      (try clear hb)
      (try clear hb2)
      (try clear hk)
      (try clear hi)
      (try clear ho0)
      refine hK.out _ _ ⟨v732, v735, v738, v741, v744, v747, m13_, (by rw [ha.out]; exact putSel_upk 7 hb_ rfl rfl rfl), (by (with_reducible repeat (first | refine blk_drewN ?_ _ | refine blk_drew ?_ | refine blk_alloc ?_ _)); exact BK730.out), (by repeat (first | (with_reducible first | exact HB.out | apply below_alloc | apply pw_below_drewN | apply below_drew1 | refine below_set ?_ GE730.out) | exact HB.out)), fun _ _ => (by (with_reducible repeat (first | apply Kd.R_alloc | apply Kd.R_drewN | apply Kd.R_drew)); exact Kd.R_mono HO733.out (fun _ _ => trivial)), z_HO736, fun _ _ => (by (with_reducible repeat (first | apply Kd.R_alloc | apply Kd.R_drewN | apply Kd.R_drew)); exact Kd.R_mono HO739.out (fun _ _ => trivial)), fun _ _ => (by (with_reducible repeat (first | apply Kd.R_alloc | apply Kd.R_drewN | apply Kd.R_drew)); exact Kd.R_mono HO742.out (fun _ _ => trivial)), fun h0_ => absurd ((hoff 11 (by kernel_rfl)).symm.trans h0_) (by decide), fun h0_ => absurd ((hoff 12 (by kernel_rfl)).symm.trans h0_) (by decide), fun h0_ => absurd ((hoff 13 (by kernel_rfl)).symm.trans h0_) (by decide)⟩
    refine steps_cons ?_ ?_
    · rintro b a w' ⟨v732, v735, v738, v741, v744, v747, m13_, ha, Q_BK730, Q_HB, Q_HO733, Q_HO736, Q_HO739, Q_HO742, Q_HO745, Q_HO748, Q_X13_⟩ hb_ hon hoff
      refine ⟨_, rfl, fun K hK => ?_⟩
      have e5 : a.tmps[5]? = some (v732) := by rw [ha]; exact putSel_on (e := (2, 5, v732)) 1 rfl rfl (hon 2 (by kernel_rfl)) rfl
      have e9 : a.tmps[9]? = some (v735) := by rw [ha]; exact putSel_on (e := (6, 9, v735)) 4 rfl rfl (hon 6 (by kernel_rfl)) rfl
      have e12 : a.tmps[12]? = some (v738) := by rw [ha]; exact putSel_on (e := (9, 12, v738)) 6 rfl rfl (hon 9 (by kernel_rfl)) rfl
      have e13 : a.tmps[13]? = some (v741) := by rw [ha]; exact putSel_on (e := (10, 13, v741)) 7 rfl rfl (hon 10 (by kernel_rfl)) rfl
      replace ha := Aside0.mk ha
      have BK730 := Aside0.mk Q_BK730
      have HB := Aside0.mk Q_HB
      have HO733 := Aside0.mk (Q_HO733 (hon 2 (by kernel_rfl)) hb_)
      have HO736 := Aside0.mk (Q_HO736 (hon 6 (by kernel_rfl)) hb_)
      have HO739 := Aside0.mk (Q_HO739 (hon 9 (by kernel_rfl)) hb_)
      have HO742 := Aside0.mk (Q_HO742 (hon 10 (by kernel_rfl)) hb_)
      obtain ⟨Ao14, co14, eo14⟩ := Kd.R_slice HO733.out
      (first | subst eo14 | (injection eo14 with f1_ f2_ f3_; have f4_ := f1_.symm; have f5_ := f3_.symm; clear f1_ f2_ f3_; subst f4_; subst f5_))
      obtain ⟨Ao15, co15, eo15⟩ := Kd.R_slice HO736.out
      (first | subst eo15 | (injection eo15 with f1_ f2_ f3_; have f4_ := f1_.symm; have f5_ := f3_.symm; clear f1_ f2_ f3_; subst f4_; subst f5_))
      obtain ⟨Ao16, co16, eo16⟩ := Kd.R_slice HO739.out
      (first | subst eo16 | (injection eo16 with f1_ f2_ f3_; have f4_ := f1_.symm; have f5_ := f3_.symm; clear f1_ f2_ f3_; subst f4_; subst f5_))
      obtain ⟨Ao17, co17, eo17⟩ := Kd.R_slice HO742.out
      (first | subst eo17 | (injection eo17 with f1_ f2_ f3_; have f4_ := f1_.symm; have f5_ := f3_.symm; clear f1_ f2_ f3_; subst f4_; subst f5_))
      refine Kd.N_lit_step (Kd.slice 5 (Kd.int .u8)) _ 22 ?hg (N' := 14) ?hd (xs := ([t731, y734, t737, t740] : List (List Int))) (inner := [.slice Ao14 t731.length co14, .slice Ao15 y734.length co15, .slice Ao16 t737.length co16, .slice Ao17 t740.length co17]) (ok := (fun k_ => k_ ≠ gb730)) (okp := (fun k_ => k_ ≠ gb730)) ?hr ?hp (fun _ hk => hk) ((show ∀ k_, w'.heap.size ≤ k_ → (fun k_ => k_ ≠ gb730) k_ from fun k_ hk => Kd.freshB (g := gb730) (o := .cells #[.int .i64 a0_0, .int .i64 a0_1, .int .i64 a0_2] 100 (0, 0)) (by (with_reducible repeat (first | refine blk_drewN ?_ _ | refine blk_drew ?_ | refine blk_alloc ?_ _)); exact BK730.out) k_ hk) _ (Nat.le_refl _)) (Below.refl _ _) (Nat.le_refl _) (by simp) ?_; (case hd => rfl); (case hg => rfl); (case hr => first | (go_simp; done) | (go_simp; rfl)); (case hp => exact (Reps.one (show Kd.FK (Kd.slice 5 (Kd.int .u8)) _ _ t731 [.slice Ao14 t731.length co14] from (Kd.FK_slice_mk (Kd.R_reads' (Kd.R_mono (ok' := (fun k_ => k_ ≠ gb730)) (Kd.R_types (HO733.out) BK730.out (by decide)) (fun k_ hk => hk.2))).2.1 (Kd.R_F (Kd.R_mono (ok' := (fun k_ => k_ ≠ gb730)) (Kd.R_types (HO733.out) BK730.out (by decide)) (fun k_ hk => hk.2))))) (Reps.one (show Kd.FK (Kd.slice 5 (Kd.int .u8)) _ _ y734 [.slice Ao15 y734.length co15] from (Kd.FK_slice_mk (Kd.R_reads' (Kd.R_mono (ok' := (fun k_ => k_ ≠ gb730)) (Kd.R_types (HO736.out) BK730.out (by decide)) (fun k_ hk => hk.2))).2.1 (Kd.R_F (Kd.R_mono (ok' := (fun k_ => k_ ≠ gb730)) (Kd.R_types (HO736.out) BK730.out (by decide)) (fun k_ hk => hk.2))))) (Reps.one (show Kd.FK (Kd.slice 5 (Kd.int .u8)) _ _ t737 [.slice Ao16 t737.length co16] from (Kd.FK_slice_mk (Kd.R_reads' (Kd.R_mono (ok' := (fun k_ => k_ ≠ gb730)) (Kd.R_types (HO739.out) BK730.out (by decide)) (fun k_ hk => hk.2))).2.1 (Kd.R_F (Kd.R_mono (ok' := (fun k_ => k_ ≠ gb730)) (Kd.R_types (HO739.out) BK730.out (by decide)) (fun k_ hk => hk.2))))) (Reps.one (show Kd.FK (Kd.slice 5 (Kd.int .u8)) _ _ t740 [.slice Ao17 t740.length co17] from (Kd.FK_slice_mk (Kd.R_reads' (Kd.R_mono (ok' := (fun k_ => k_ ≠ gb730)) (Kd.R_types (HO742.out) BK730.out (by decide)) (fun k_ hk => hk.2))).2.1 (Kd.R_F (Kd.R_mono (ok' := (fun k_ => k_ ≠ gb730)) (Kd.R_types (HO742.out) BK730.out (by decide)) (fun k_ hk => hk.2))))) (Reps.none _ _))))))
      intro v744 w18 ho19 hb hg_ hnew_
      clear hg_ hnew_
      (first | rw [← Ny743.out] at ho19 | (simp only [Int.reduceToNat] at ho19; rw [← Ny743.out] at ho19))
      have n0_ := Aside0.mk (Kd.N_lower ho19 (below_size (by repeat (first | (with_reducible first | exact HB.out | apply below_alloc | apply pw_below_drewN | apply below_drew1 | refine below_set ?_ GE730.out) | exact HB.out))))
      have n1_ := Aside0.mk (blk_below (g := gb730) (o := .cells #[.int .i64 a0_0, .int .i64 a0_1, .int .i64 a0_2] 100 (0, 0)) (by (with_reducible repeat (first | refine blk_drewN ?_ _ | refine blk_drew ?_ | refine blk_alloc ?_ _)); exact BK730.out) hb)
      have n2_ := Aside0.mk (below_step (by repeat (first | (with_reducible first | exact HB.out | apply below_alloc | apply pw_below_drewN | apply below_drew1 | refine below_set ?_ GE730.out) | exact HB.out)) hb)
      clear BK730
      clear HB
      clear HO733
      clear HO736
      clear HO739
      clear HO742
      have HO745 := n0_
      have BK730 := n1_
      have HB := n2_
      clear n0_ n1_ n2_
      clear hb ho19
      refine hK.out _ _ ⟨.slice Ao14 t731.length co14, .slice Ao15 y734.length co15, .slice Ao16 t737.length co16, .slice Ao17 t740.length co17, v744, v747, m13_, (by rw [ha.out]; exact putSel_upk 8 hb_ rfl rfl rfl), (by (with_reducible repeat (first | refine blk_drewN ?_ _ | refine blk_drew ?_ | refine blk_alloc ?_ _)); exact BK730.out), (by repeat (first | (with_reducible first | exact HB.out | apply below_alloc | apply pw_below_drewN | apply below_drew1 | refine below_set ?_ GE730.out) | exact HB.out)), fun _ h1_ => absurd ((up_self b 11).symm.trans h1_) (by decide), fun _ h1_ => absurd ((up_self b 11).symm.trans h1_) (by decide), fun _ h1_ => absurd ((up_self b 11).symm.trans h1_) (by decide), fun _ h1_ => absurd ((up_self b 11).symm.trans h1_) (by decide), fun _ => (by (with_reducible repeat (first | apply Kd.N_alloc | apply Kd.N_drewN | apply Kd.N_drew)); exact HO745.out), fun h0_ => absurd ((hoff 12 (by kernel_rfl)).symm.trans h0_) (by decide), fun h0_ => absurd ((hoff 13 (by kernel_rfl)).symm.trans h0_) (by decide)⟩
    refine steps_cons ?_ ?_
    · rintro b a w' ⟨v732, v735, v738, v741, v744, v747, m13_, ha, Q_BK730, Q_HB, Q_HO733, Q_HO736, Q_HO739, Q_HO742, Q_HO745, Q_HO748, Q_X13_⟩ hb_ hon hoff
      refine ⟨_, rfl, fun K hK => ?_⟩
      have e14 : a.tmps[14]? = some (v744) := by rw [ha]; exact putSel_on (e := (11, 14, v744)) 8 rfl rfl (hon 11 (by kernel_rfl)) rfl
      replace ha := Aside0.mk ha
      have BK730 := Aside0.mk Q_BK730
      have HB := Aside0.mk Q_HB
      have HO745 := Aside0.mk (Q_HO745 (hon 11 (by kernel_rfl)))
      obtain ⟨Ao20, co20, eo20⟩ := Kd.N_slice HO745.out
      (first | subst eo20 | (injection eo20 with f1_ f2_ f3_; have f4_ := f1_.symm; have f5_ := f3_.symm; clear f1_ f2_ f3_; subst f4_; subst f5_))
      refine goes_ Try.func153 (by kernel_rfl) rfl #[.slice Ao20 y743.length co20, .slice none 0 0] (by rfl) rfl rfl (by first | (simp only [List.map_toArray, List.map_cons, List.map_nil, Act.eval, Array.getD_eq_getD_getElem?, Option.getD_some, e14]; done) | (simp only [List.map_toArray, List.map_cons, List.map_nil, Act.eval, Array.getD_eq_getD_getElem?, Option.getD_some, e14]; rfl)) ?_
      refine (bytes_Join.calls _ _ y743 _ _ ([] : List Int) t746 _ ?side1 ?side2 ?side3 ?side4 A5.out).mono ?_
      (case side1 => repeat (first | exact (Kd.N_reads' HO745.out).2.2 | (with_reducible refine Kd.C_alloc ?_ _) | (with_reducible refine Kd.C_drewN ?_ _) | (with_reducible refine Kd.C_drew ?_)))
      (case side2 => exact (Kd.N_reads' HO745.out).2.1)
      (case side3 => exact Kd.C_nil _ _)
      (case side4 => exact Nat.le_refl _)
      rintro e w21 ⟨v747, rfl, ho0, hb⟩
      refine ⟨_, rfl, ?_⟩
      have n0_ := Aside0.mk (Kd.N_below HO745.out hb)
      have n1_ := Aside0.mk (Kd.V_mono (ok' := fun k_ => w.heap.size ≤ k_) ho0 (fun k_ hk_ => Nat.le_trans HB.out.size hk_))
      have n2_ := Aside0.mk (blk_below (g := gb730) (o := .cells #[.int .i64 a0_0, .int .i64 a0_1, .int .i64 a0_2] 100 (0, 0)) (by (with_reducible repeat (first | refine blk_drewN ?_ _ | refine blk_drew ?_ | refine blk_alloc ?_ _)); exact BK730.out) hb)
      have n3_ := Aside0.mk (below_step (by repeat (first | (with_reducible first | exact HB.out | apply below_alloc | apply pw_below_drewN | apply below_drew1 | refine below_set ?_ GE730.out) | exact HB.out)) hb)
      clear HO745
      clear BK730
      clear HB
      have HO745 := n0_
      have HO748 := n1_
      have BK730 := n2_
      have HB := n3_
      clear n0_ n1_ n2_ n3_
      (try clear hb)
      (try clear hb2)
      (try clear hk)
      (try clear hi)
      (try clear ho0)
      refine hK.out _ _ ⟨v732, v735, v738, v741, .slice Ao20 y743.length co20, v747, m13_, (by rw [ha.out]; exact putSel_upk 9 hb_ rfl rfl rfl), (by (with_reducible repeat (first | refine blk_drewN ?_ _ | refine blk_drew ?_ | refine blk_alloc ?_ _)); exact BK730.out), (by repeat (first | (with_reducible first | exact HB.out | apply below_alloc | apply pw_below_drewN | apply below_drew1 | refine below_set ?_ GE730.out) | exact HB.out)), fun _ h1_ => absurd ((hon 11 (by kernel_rfl)).symm.trans h1_) (by decide), fun _ h1_ => absurd ((hon 11 (by kernel_rfl)).symm.trans h1_) (by decide), fun _ h1_ => absurd ((hon 11 (by kernel_rfl)).symm.trans h1_) (by decide), fun _ h1_ => absurd ((hon 11 (by kernel_rfl)).symm.trans h1_) (by decide), fun _ => (by (with_reducible repeat (first | apply Kd.N_alloc | apply Kd.N_drewN | apply Kd.N_drew)); exact HO745.out), fun _ => HO748.out, fun h0_ => absurd ((hoff 13 (by kernel_rfl)).symm.trans h0_) (by decide)⟩
    refine steps_cons ?_ ?_
    · rintro b a w' ⟨v732, v735, v738, v741, v744, v747, m13_, ha, Q_BK730, Q_HB, Q_HO733, Q_HO736, Q_HO739, Q_HO742, Q_HO745, Q_HO748, Q_X13_⟩ hb_ hon hoff
      refine ⟨_, rfl, fun K hK => ?_⟩
      have e15 : a.tmps[15]? = some (v747) := by rw [ha]; exact putSel_on (e := (12, 15, v747)) 9 rfl rfl (hon 12 (by kernel_rfl)) rfl
      replace ha := Aside0.mk ha
      have BK730 := Aside0.mk Q_BK730
      have HB := Aside0.mk Q_HB
      have HO745 := Aside0.mk (Q_HO745 (hon 11 (by kernel_rfl)))
      have HO748 := Aside0.mk (Q_HO748 (hon 12 (by kernel_rfl)))
      refine value_ (w1 := w') (v := v747) (by rfl) rfl ?_ ?_
      · go_simp
        (try simp only [i64_w])
        try rfl
      refine hK.out _ _ ⟨v732, v735, v738, v741, v744, v747, (v747), (by rw [ha.out]; exact putSel_upk 10 hb_ rfl rfl rfl), Q_BK730, Q_HB, fun _ h1_ => absurd ((hon 11 (by kernel_rfl)).symm.trans h1_) (by decide), fun _ h1_ => absurd ((hon 11 (by kernel_rfl)).symm.trans h1_) (by decide), fun _ h1_ => absurd ((hon 11 (by kernel_rfl)).symm.trans h1_) (by decide), fun _ h1_ => absurd ((hon 11 (by kernel_rfl)).symm.trans h1_) (by decide), Q_HO745, Q_HO748, fun _ => rfl⟩
    exact steps_nil
  rintro b a w21 hall ⟨v732, v735, v738, v741, v744, v747, m13_, ha, Q_BK730, Q_HB, Q_HO733, Q_HO736, Q_HO739, Q_HO742, Q_HO745, Q_HO748, Q_X13_⟩
  clear BK730 HB
  have hb1_ := hall 1 (by kernel_rfl)
  have hb2_ := hall 2 (by kernel_rfl)
  have hb4_ := hall 4 (by kernel_rfl)
  have hb5_ := hall 5 (by kernel_rfl)
  have hb6_ := hall 6 (by kernel_rfl)
  have hb8_ := hall 8 (by kernel_rfl)
  have hb9_ := hall 9 (by kernel_rfl)
  have hb10_ := hall 10 (by kernel_rfl)
  have hb11_ := hall 11 (by kernel_rfl)
  have hb12_ := hall 12 (by kernel_rfl)
  have hb13_ := hall 13 (by kernel_rfl)
  subst ha
  obtain rfl := Q_X13_ hb13_
  simp only [putSel, hb1_, hb2_, hb4_, hb5_, hb6_, hb8_, hb9_, hb10_, hb11_, hb12_, hb13_, if_true, Act.put, List.setIfInBounds_toArray, List.set_cons_zero, List.set_cons_succ]
  have BK730 := Aside0.mk Q_BK730
  clear Q_BK730
  have HB := Aside0.mk Q_HB
  clear Q_HB
  clear Q_HO733
  clear Q_HO736
  clear Q_HO739
  clear Q_HO742
  have HO745 := Aside0.mk (Q_HO745 hb11_)
  clear Q_HO745
  have HO748 := Aside0.mk (Q_HO748 hb12_)
  clear Q_HO748
  clear hall hb1_ hb2_ hb4_ hb5_ hb6_ hb8_ hb9_ hb10_ hb11_ hb12_ hb13_
  try go_wp2
  go_ret
  exact ⟨_, by first | rfl | (simp [errW_none, errW_some] <;> rfl) | (simp [*, errW_none, errW_some] <;> rfl), HO748.out, by repeat (first | (with_reducible first | exact HB.out | apply below_alloc | apply pw_below_drewN | apply below_drew1 | refine below_set ?_ GE730.out) | exact HB.out)⟩

end Go.Proofs.Ytlopmffdebhpfaa.G

/-! ## PageB -/
namespace Go.Proofs.Ytlopmffdebhpfaa.G
open Go.RowKit Go.Proofs.YtlopmffdebhpfaaW.PrintWords Go.Proofs.YtlopmffdebhpfaaW.PrintLast Go.Proofs.YtlopmffdebhpfaaW.PrintMore
set_option linter.unusedVariables false
set_option linter.unusedSimpArgs false

/-- The page's bytes: the head at 4, the body at 16, the checksum of all behind it at 0. -/
def pageRest (hb l3 : List Int) : List Int := spl (spl (List.replicate 256 0) 4 hb) 16 l3
def impl_page_bytes.f (k : Nat) (a0 : Int) (a1 : Int) (a2 : Int) (l3 : List Int) : Option (List Int) :=
  (impl_head_bytes.f k a0 a1 a2).bind fun hb => if hb.length ≤ 252 then (if l3.length ≤ 240 then ((impl_Crc32.f k ((pageRest hb l3).drop 4)).bind fun c => ((impl_low.f k c 4).bind fun lb => (if lb.length ≤ 256 then (some (spl (pageRest hb l3) 0 lb)) else none))) else none) else none
theorem pageRest_length (hb l3 : List Int) (h1 : hb.length ≤ 252) (h2 : l3.length ≤ 240) : (pageRest hb l3).length = 256 := by
  unfold pageRest
  have h0 : (List.replicate 256 (0 : Int)).length = 256 := List.length_replicate ..
  have h3 := spl_length (List.replicate 256 (0 : Int)) 4 hb (by omega)
  rw [spl_length _ _ _ (by omega), h3, h0]

def impl_page_bytes.T2 : Bool × List (List Nat × List Nat) := (true, [([], []), ([0], [0]), ([], []), ([2], [2]), ([3], [3]), ([1, 4, 4], [1, 4])])
def impl_page_bytes.B2 : List Nat := [0, 1, 0, 4, 12, 31]
theorem impl_page_bytes.tab2 : rtab .any (opsOf Try.f80 2) = impl_page_bytes.T2 := by kernel_rfl
theorem impl_page_bytes.bits2 : waitsOk impl_page_bytes.T2.2 impl_page_bytes.B2 = true := by kernel_rfl
def impl_page_bytes.T3 : Bool × List (List Nat × List Nat) := (true, [([], []), ([0], [0]), ([], []), ([2], [2]), ([1, 3], [1, 3])])
def impl_page_bytes.B3 : List Nat := [0, 1, 0, 4, 15]
theorem impl_page_bytes.tab3 : rtab .any (opsOf Try.f80 3) = impl_page_bytes.T3 := by kernel_rfl
theorem impl_page_bytes.bits3 : waitsOk impl_page_bytes.T3.2 impl_page_bytes.B3 = true := by kernel_rfl
set_option maxHeartbeats 4000000 in
set_option maxRecDepth 100000 in
theorem impl_page_bytes.calls (k : Nat) (a0 a1 a2 : Int) (A3 : Option Addr) (c3 : Nat) (l3 : List Int) (r : List Int) (w : World) (hr3 : Kd.C (Kd.int .u8) w A3 l3.length l3) (hc3 : l3.length ≤ c3) (h : impl_page_bytes.f k a0 a1 a2 l3 = some r) :
    Calls Try.prog 80 #[.agg #[.int .i64 a0, .int .i64 a1, .int .i64 a2, .slice A3 l3.length c3]] w fun e w' => ∃ v0_ : Value, e = .returned (v0_) ∧ Kd.R (Kd.int .u8) 5 w' w.heap.size (fun _ => True) v0_ r ∧ Below w.heap.size w w' := by
  have hu102 := Try.underlying102
  have hu100 := Try.underlying100
  unfold impl_page_bytes.f at h
  obtain ⟨hb, H1, h⟩ := Option.bind_eq_some_iff.mp h
  split at h
  case isFalse => cases h
  rename_i hb252
  split at h
  case isFalse => cases h
  rename_i hl240
  obtain ⟨crc, H2, h⟩ := Option.bind_eq_some_iff.mp h
  obtain ⟨lb, H3, h⟩ := Option.bind_eq_some_iff.mp h
  split at h
  case isFalse => cases h
  rename_i hlb
  obtain rfl := Option.some.inj h
  clear h
  have A1 := Aside0.mk H1
  have A2 := Aside0.mk H2
  have A3' := Aside0.mk H3
  clear H1 H2 H3
  have HR3 := Aside0.mk hr3
  have HC3 := Aside0.mk hc3
  clear hr3 hc3
  have L1 := Aside0.mk hb252
  have L2 := Aside0.mk hl240
  have L3 := Aside0.mk hlb
  clear hb252 hl240 hlb
  obtain ⟨i0, hi0, _, hsz0, _⟩ := info_parts info5
  have HI := Aside0.mk hi0
  have HZ := Aside0.mk hsz0
  clear hi0 hsz0
  go_enter Try.func80, Try.ntmps80
  go_wp2_with (first | ((with_reducible refine gate_dst (N := 1) rfl ?_); refine box_event ?hg (N := 1) ?hd (cs := #[.int .i64 a0, .int .i64 a1, .int .i64 a2, .slice A3 l3.length c3]) (t := 102) ?hr ?_; (case hd => rfl); (case hg => rfl); (case hr => first | (go_simp; done) | (go_simp; rfl)); intro gb hgb w6 hbox hbel; have BK := Aside0.mk hbox; have HB := Aside0.mk hbel; have GB := Aside0.mk hgb; clear hbox hbel hgb) | ((with_reducible refine gate_dst (N := 4) rfl ?_); refine Kd.R_make (Kd.int .u8) _ 5 rfl (N := 4) rfl 22 _ _ rfl 256 rfl rfl Try.underlying22 (.int .u8 0) 1 info5 rfl (by decide) (by omega) 0 (ok := fun _ => True) (okp := fun _ => True) rfl (fun _ hk => hk) trivial (by decide) (by decide) (Below.refl _ _) (Nat.le_refl _) ?_; intro v7 w7 ho7 hb7 hg7 hn7; have HM := Aside0.mk ho7; have HM2 := Aside0.mk hb7; clear ho7 hb7 hg7 hn7; obtain ⟨g, cap, ev, _, _, _⟩ := Kd.R_form HM.out (by decide); subst ev; rw [show (List.replicate (256 : Int).toNat (0 : Int)).length = 256 from rfl] at HM ⊢))
  have HGB : Aside0 (w6.heap.size ≤ g) := ⟨Kd.R_base HM.out g rfl⟩
  have HCAP : Aside0 (256 ≤ cap) := ⟨(Kd.R_reads' HM.out).2.1⟩
  have HSZ : Aside0 (w.heap.size ≤ w6.heap.size) := ⟨HB.out.size⟩
  have HGW : Aside0 (w.heap.size ≤ g) := ⟨Nat.le_trans HB.out.size HGB.out⟩
  have HB7 := Aside0.mk (below_step HB.out HM2.out)
  have BK7 := Aside0.mk (blk_below BK.out HM2.out)
  have hgne : Aside0 (gb ≠ g) := ⟨by have := HGB.out; have := blk_lt BK.out; omega⟩
  clear HB BK HM2
  have hsl4 : ∀ W, (Instr.slice 22 (.slice (some ⟨g, 0, none⟩) 256 cap) (some (.int .i64 4)) none none).run Try.prog W = .ok (.slice (some ⟨g, 4, none⟩) 252 (cap - 4)) W := cut_own 22 5 Try.underlying22 HI.out HZ.out g 256 cap 4 (by decide) (by have := HCAP.out; omega)
  have hsl16 : ∀ W, (Instr.slice 22 (.slice (some ⟨g, 0, none⟩) 256 cap) (some (.int .i64 16)) none none).run Try.prog W = .ok (.slice (some ⟨g, 16, none⟩) 240 (cap - 16)) W := cut_own 22 5 Try.underlying22 HI.out HZ.out g 256 cap 16 (by decide) (by have := HCAP.out; omega)
  refine start_ (n := 6) (S := fun w' => w'.heap[gb]? = some (.cells #[.int .i64 a0, .int .i64 a1, .int .i64 a2, .slice A3 l3.length c3] 102 (0, 0))) (ds := []) #[false, false, false, false, false, false] (by kernel_rfl) rfl rfl (BK7.out) (fun hHeld => ?_); refine with_tabW impl_page_bytes.tab2 impl_page_bytes.bits2 (fun HT_ HW_ => ?_)
  have HM8 : Aside0 (Kd.R (Kd.int .u8) 5 w7.drew w6.heap.size (fun _ => True) (.slice (some ⟨g, 0, none⟩) 256 cap) (List.replicate (256 : Int).toNat 0)) := ⟨Kd.R_drew HM.out⟩
  have HB8 : Aside0 (Below w.heap.size w w7.drew) := ⟨below_drew1 HB7.out⟩
  clear HM HB7 BK7
  generalize w7.drew = w8 at HM8 HB8 hHeld ⊢
  refine pure_ (i := 0) (N := some 5) (v := ?_) (a' := ?_) #[true, false, false, false, false, false] rfl rfl (any_of HT_.out (by kernel_rfl)) (fun _ _ _ h => h) (Or.inl ⟨by rfl, ?_⟩) ?_ ?_
  rotate_left
  · intro w'
    go_simp
    with_reducible rfl
  rotate_left
  · simp only [Act.put, List.setIfInBounds_toArray, List.set_cons_zero, List.set_cons_succ, i64_w, i32_w]
    rfl
  refine pure_ (i := 1) (N := some 6) (v := ?_) (a' := ?_) #[true, true, false, false, false, false] rfl rfl (any_of HT_.out (by kernel_rfl)) (fun _ _ _ h => h) (Or.inl ⟨by rfl, ?_⟩) ?_ ?_
  rotate_left
  · intro w'
    go_simp
    with_reducible rfl
  rotate_left
  · simp only [Act.put, List.setIfInBounds_toArray, List.set_cons_zero, List.set_cons_succ, i64_w, i32_w]
    rfl
  refine pure_ (i := 2) (N := some 7) (v := ?_) (a' := ?_) #[true, true, true, false, false, false] rfl rfl (any_of HT_.out (by kernel_rfl)) (fun _ _ _ h => h) (Or.inl ⟨by rfl, ?_⟩) ?_ ?_
  rotate_left
  · intro w'
    go_simp
    with_reducible rfl
  rotate_left
  · simp only [Act.put, List.setIfInBounds_toArray, List.set_cons_zero, List.set_cons_succ, i64_w, i32_w]
    rfl
  refine take_ (i := 3) (N := some 8) (v := ?_) (a' := ?_) #[true, true, true, true, false, false] rfl rfl (take_ofW HT_.out HW_.out (by kernel_rfl)) (fun _ _ _ h => h) (Or.inl ⟨by rfl, ?_⟩) hHeld ?_ ?_
  rotate_left
  · intro w' s0
    have hc0_ : w'.cell? ⟨gb, 0, none⟩ = some (.int .i64 a0) := (blk_cell s0 0).trans rfl
    have hc1_ : w'.cell? ⟨gb, 1, none⟩ = some (.int .i64 a1) := (blk_cell s0 1).trans rfl
    have hc2_ : w'.cell? ⟨gb, 2, none⟩ = some (.int .i64 a2) := (blk_cell s0 2).trans rfl
    clear s0
    go_simp
    with_reducible rfl
  rotate_left
  · simp only [Act.put, List.setIfInBounds_toArray, List.set_cons_zero, List.set_cons_succ, i64_w, i32_w]
    rfl
  refine one_ (i := 4) (N := some 9) #[true, true, true, true, true, false] rfl rfl (one_of HT_.out (by kernel_rfl)) (by decide) (fun K hK => ?_)
  refine goes_ Try.func134 (by kernel_rfl) rfl #[.agg #[.int .i64 a0, .int .i64 a1, .int .i64 a2]] (by rfl) rfl rfl (by first | rfl | (simp only [List.map_toArray, List.map_cons, List.map_nil]; first | done | rfl)) ?_
  refine (impl_head_bytes.calls k a0 a1 a2 hb _ A1.out).mono ?_
  rintro e w9 ⟨v9, rfl, hv9, hb9⟩
  refine ⟨_, rfl, ?_⟩
  have HM9 := Aside0.mk (Kd.R_below HM8.out hb9)
  have HB9 := Aside0.mk (below_step HB8.out hb9)
  have HV9 := Aside0.mk hv9
  have HD9 := Aside0.mk (hb9.block gb (blk_lt hHeld) |>.trans hHeld)
  have HN9 : Aside0 (g < w8.heap.size) := ⟨Kd.R_lt HM8.out g rfl⟩
  clear hHeld hb9 hv9 HM8 HB8
  obtain ⟨A9, c9, ev9⟩ := Kd.V_slice HV9.out
  subst ev9
  refine hK.out _ _ (HD9.out) (fun hHeld => ?_)
  clear hK K
  refine norm_ (a' := ?_) ?_ ?_
  rotate_left
  · show Act.put _ (some 9) _ = _
    simp only [Act.put, List.setIfInBounds_toArray, List.set_cons_zero, List.set_cons_succ, i64_w, i32_w]
    rfl
  refine one_ (i := 5) (N := some 10) #[true, true, true, true, true, true] rfl rfl (one_of HT_.out (by kernel_rfl)) (by decide) (fun K hK => ?_)
  obtain ⟨w10, hrun10, hR10, hG10⟩ := run_copy_at (P := Try.prog) 22 22 3 5 Try.underlying22 (by kernel_rfl) w9 (off := 4) (xs := List.replicate (256 : Int).toNat 0) (ys := hb) (A := A9) (dA := some ⟨g, 4, none⟩) (c := c9) (dc := cap - 4) HM9.out (Kd.V_reads' HV9.out).2.2 (by have := L1.out; show 4 + hb.length ≤ 256; omega) (fun _ => rfl)
  refine copy_step (by rfl) rfl (.tmp 6) (.tmp 9) 22 22 rfl _ _ _ rfl rfl hrun10 ?_
  have HM10 := Aside0.mk hR10
  have HB10 := Aside0.mk (HB9.out.grown hG10 HB9.out.size (by intro q hq; cases hq; exact HGW.out))
  have HD10 := Aside0.mk (blk_grown HD9.out hG10 (by intro e; exact hgne.out (Option.some.inj e)))
  clear HM9 HB9 HD9 HV9 hrun10 hR10 hG10
  refine hK.out _ _ (HD10.out) (fun hHeld => ?_)
  clear hK K
  refine norm_ (a' := ?_) ?_ ?_
  rotate_left
  · show Act.put _ (some 10) _ = _
    simp only [Act.put, List.setIfInBounds_toArray, List.set_cons_zero, List.set_cons_succ, i64_w, i32_w]
    rfl
  refine done_ (done_of HT_.out (by kernel_rfl)) ?_

  try clear hHeld
  go_wp2_with fail
  have hsl16' := hsl16
  refine start_ (n := 5) (S := fun w' => w'.heap[gb]? = some (.cells #[.int .i64 a0, .int .i64 a1, .int .i64 a2, .slice A3 l3.length c3] 102 (0, 0))) (ds := []) #[false, false, false, false, false] (by kernel_rfl) rfl rfl (HD10.out) (fun hHeld => ?_); refine with_tabW impl_page_bytes.tab3 impl_page_bytes.bits3 (fun HT_ HW_ => ?_)
  have HM11 : Aside0 (Kd.R (Kd.int .u8) 5 w10.drew w6.heap.size (fun _ => True) (.slice (some ⟨g, 0, none⟩) 256 cap) (spl (List.replicate (256 : Int).toNat 0) 4 hb)) := ⟨Kd.R_drew HM10.out⟩
  have HB11 : Aside0 (Below w.heap.size w w10.drew) := ⟨below_drew1 HB10.out⟩
  clear HM10 HB10 HD10
  generalize w10.drew = w11 at HM11 HB11 hHeld ⊢
  refine pure_ (i := 0) (N := some 11) (v := ?_) (a' := ?_) #[true, false, false, false, false] rfl rfl (any_of HT_.out (by kernel_rfl)) (fun _ _ _ h => h) (Or.inl ⟨by rfl, ?_⟩) ?_ ?_
  rotate_left
  · intro w'
    go_simp
    with_reducible rfl
  rotate_left
  · simp only [Act.put, List.setIfInBounds_toArray, List.set_cons_zero, List.set_cons_succ, i64_w, i32_w]
    rfl
  refine pure_ (i := 1) (N := some 12) (v := ?_) (a' := ?_) #[true, true, false, false, false] rfl rfl (any_of HT_.out (by kernel_rfl)) (fun _ _ _ h => h) (Or.inl ⟨by rfl, ?_⟩) ?_ ?_
  rotate_left
  · intro w'
    go_simp
    with_reducible rfl
  rotate_left
  · simp only [Act.put, List.setIfInBounds_toArray, List.set_cons_zero, List.set_cons_succ, i64_w, i32_w]
    rfl
  refine pure_ (i := 2) (N := some 13) (v := ?_) (a' := ?_) #[true, true, true, false, false] rfl rfl (any_of HT_.out (by kernel_rfl)) (fun _ _ _ h => h) (Or.inl ⟨by rfl, ?_⟩) ?_ ?_
  rotate_left
  · intro w'
    go_simp
    with_reducible rfl
  rotate_left
  · simp only [Act.put, List.setIfInBounds_toArray, List.set_cons_zero, List.set_cons_succ, i64_w, i32_w]
    rfl
  refine take_ (i := 3) (N := some 14) (v := ?_) (a' := ?_) #[true, true, true, true, false] rfl rfl (take_ofW HT_.out HW_.out (by kernel_rfl)) (fun _ _ _ h => h) (Or.inl ⟨by rfl, ?_⟩) hHeld ?_ ?_
  rotate_left
  · intro w' s0
    have hc3_ : w'.cell? ⟨gb, 3, none⟩ = some (.slice A3 l3.length c3) := (blk_cell s0 3).trans rfl
    clear s0
    go_simp
    with_reducible rfl
  rotate_left
  · simp only [Act.put, List.setIfInBounds_toArray, List.set_cons_zero, List.set_cons_succ, i64_w, i32_w]
    rfl
  refine one_ (i := 4) (N := some 15) #[true, true, true, true, true] rfl rfl (one_of HT_.out (by kernel_rfl)) (by decide) (fun K hK => ?_)
  have hx11 : (spl (List.replicate (256 : Int).toNat 0) 4 hb).length = 256 := spl_length _ _ _ (by have := L1.out; show 4 + hb.length ≤ 256; omega)
  have hm11 := HM11.out
  rw [show (256 : Nat) = (spl (List.replicate (256 : Int).toNat 0) 4 hb).length from hx11.symm] at hm11
  obtain ⟨w12, hrun12, hR12, hG12⟩ := run_copy_at (P := Try.prog) 22 22 3 5 Try.underlying22 (by kernel_rfl) w11 (off := 16) (ys := l3) (A := A3) (dA := some ⟨g, 16, none⟩) (c := c3) (dc := cap - 16) hm11 (Kd.C_below HR3.out HB11.out) (by have := L2.out; rw [hx11]; omega) (fun _ => rfl)
  rw [hx11] at hrun12 hR12
  refine copy_step (by rfl) rfl (.tmp 12) (.tmp 14) 22 22 rfl _ _ _ rfl rfl hrun12 ?_
  have HM12 := Aside0.mk hR12
  have HB12 := Aside0.mk (HB11.out.grown hG12 HB11.out.size (by intro q hq; cases hq; exact HGW.out))
  have HD12 := Aside0.mk (blk_grown hHeld hG12 (by intro e; exact hgne.out (Option.some.inj e)))
  clear HM11 HB11 hHeld hrun12 hR12 hG12 hx11 hm11
  refine hK.out _ _ (HD12.out) (fun hHeld => ?_)
  clear hK K
  refine norm_ (a' := ?_) ?_ ?_
  rotate_left
  · show Act.put _ (some 15) _ = _
    simp only [Act.put, List.setIfInBounds_toArray, List.set_cons_zero, List.set_cons_succ, i64_w, i32_w]
    rfl
  refine done_ (done_of HT_.out (by kernel_rfl)) ?_
  try clear hHeld
  have hPL : Aside0 ((pageRest hb l3).length = 256) := ⟨pageRest_length hb l3 L1.out L2.out⟩
  have HM13 : Aside0 (Kd.R (Kd.int .u8) 5 w12 w6.heap.size (fun _ => True) (.slice (some ⟨g, 0, none⟩) 256 cap) (pageRest hb l3)) := HM12
  clear HM12
  have HC13 : Aside0 (Kd.C (Kd.int .u8) w12 (some ⟨g, 4, none⟩) ((pageRest hb l3).drop 4).length ((pageRest hb l3).drop 4)) := ⟨by
    have h1 := (Kd.R_reads' HM13.out).2.2
    have h2 := Kd.C_drop (c := cap) h1 (m := 4) (by have := hPL.out; omega) (by have := hPL.out; have := HCAP.out; omega)
    rw [if_neg (by have := HCAP.out; omega)] at h2
    exact h2⟩
  have hdl : ((pageRest hb l3).drop 4).length = 252 := by rw [List.length_drop, hPL.out]
  have HDL := Aside0.mk hdl
  clear hdl
  go_wp2_with fail
  have hcr := impl_Crc32.calls k (some ⟨g, 4, none⟩) (cap - 4) ((pageRest hb l3).drop 4) crc w12 HC13.out (by have := HDL.out; have := HCAP.out; omega) A2.out
  rw [HDL.out] at hcr
  refine hcr.mono ?_
  clear hcr
  rintro e w13 ⟨rfl, hd13⟩
  have HM14 := Aside0.mk (Kd.R_below HM13.out hd13.below)
  have HB14 := Aside0.mk (below_step HB12.out hd13.below)
  clear HM13 HC13 HB12 hd13 HD12
  go_wp2_with fail
  refine (impl_low.calls k crc 4 lb w13 A3'.out).mono ?_
  rintro e w14 ⟨v14, rfl, ho14, hb14⟩
  have HM15 := Aside0.mk (Kd.R_below HM14.out hb14)
  have HB15 := Aside0.mk (below_step HB14.out hb14)
  have HO15 := Aside0.mk ho14
  clear HM14 HB14 ho14 hb14
  obtain ⟨A15, c15, ev15⟩ := Kd.R_slice HO15.out
  subst ev15
  obtain ⟨w16, hrun16, hR16, hG16⟩ : ∃ w1, (Builtin.copy_ #[22, 22] 3 #[.slice (some ⟨g, 0, none⟩) 256 cap, .slice A15 lb.length c15]).run Try.prog w14 = .ok (.int .i64 (lb.length : Int)) w1 ∧
      Kd.R (Kd.int .u8) 5 w1 w6.heap.size (fun _ => True) (.slice (some ⟨g, 0, none⟩) 256 cap) (spl (pageRest hb l3) 0 lb) ∧ w14.grownBy w1 (some g) := by
    have hm := HM15.out
    rw [show (256 : Nat) = (pageRest hb l3).length from hPL.out.symm] at hm ⊢
    have hq := run_copy_at (P := Try.prog) 22 22 3 5 Try.underlying22 (by kernel_rfl) w14 (off := 0) (ys := lb) (dc := cap) (c := c15) (dA := some ⟨g, 0, none⟩) hm (Kd.R_reads' HO15.out).2.2 (by have := L3.out; have := hPL.out; omega) (fun _ => rfl)
    rw [Nat.sub_zero] at hq
    with_reducible exact hq
  have HM16 := Aside0.mk hR16
  have HB16 := Aside0.mk (HB15.out.grown hG16 HB15.out.size (by intro q hq; cases hq; exact HGW.out))
  have HRUN := Aside0.mk hrun16
  clear HM15 HB15 HO15 hR16 hG16 hrun16
  go_wp2_with ((with_reducible refine gate_dst (N := 21) rfl ?_); refine copy_list rfl (.tmp 16) (.tmp 20) 22 22 rfl _ _ _ rfl rfl HRUN.out ?_)
  go_ret
  exact ⟨_, rfl, Kd.R_lower HM16.out HSZ.out, HB16.out⟩
end Go.Proofs.Ytlopmffdebhpfaa.G

/-! ## G130 -/
namespace Go.Proofs.Ytlopmffdebhpfaa.G
open Go.RowKit Go.Proofs.YtlopmffdebhpfaaW.PrintWords Go.Proofs.YtlopmffdebhpfaaW.PrintLast Go.Proofs.YtlopmffdebhpfaaW.PrintMore
attribute [local go_sem] max2_int min2_int max_two min_two max_three min_three max_four min_four
set_option linter.unusedVariables false
set_option linter.unusedSimpArgs false

/-! ### impl_numberAt: function 130 -/
end Go.Proofs.Ytlopmffdebhpfaa.G

/-! ## G79 -/
namespace Go.Proofs.Ytlopmffdebhpfaa.G
open Go.RowKit Go.Proofs.YtlopmffdebhpfaaW.PrintWords Go.Proofs.YtlopmffdebhpfaaW.PrintLast Go.Proofs.YtlopmffdebhpfaaW.PrintMore
attribute [local go_sem] max2_int min2_int max_two min_two max_three min_three max_four min_four
set_option linter.unusedVariables false
set_option linter.unusedSimpArgs false

/-! ### impl_head_valid: function 79 -/
def impl_head_valid.f (a0_0 : Int) (a0_1 : Int) (a0_2 : Int) : Option (Bool) := if a0_0 ≥ 0 then (if a0_0 ≤ 1023 then (if a0_1 ≥ 1 then (if a0_1 ≤ 4 then (some (decide (a0_2 ≤ 240))) else (some false)) else (some false)) else (some false)) else (some false)
set_option maxHeartbeats 8000000 in
set_option maxRecDepth 100000 in
theorem impl_head_valid.calls (a0_0 : Int) (a0_1 : Int) (a0_2 : Int) (r : Bool) (w : World) (h : impl_head_valid.f a0_0 a0_1 a0_2 = some r) :
    Calls Try.prog 79 #[.agg #[.int .i64 a0_0, .int .i64 a0_1, .int .i64 a0_2]] w fun e w' => e = .returned (.bool r) ∧ Below w.heap.size w w' := by
  have hu100 := Try.underlying100
  have HB := Aside0.mk (Below.refl w.heap.size w)
  have H : (if a0_0 ≥ 0 then (if a0_0 ≤ 1023 then (if a0_1 ≥ 1 then (if a0_1 ≤ 4 then (some (decide (a0_2 ≤ 240))) else (some false)) else (some false)) else (some false)) else (some false)) = some r := h
  clear h
  by_cases c2 : a0_0 ≥ 0
  · rw [if_pos c2] at H
    have c2b0 : decide (0 ≤ a0_0) = true := decide_eq_true c2
    clear c2
    by_cases c3 : a0_0 ≤ 1023
    · rw [if_pos c3] at H
      have c3b0 : decide (a0_0 ≤ 1023) = true := decide_eq_true c3
      clear c3
      by_cases c4 : a0_1 ≥ 1
      · rw [if_pos c4] at H
        have c4b0 : decide (1 ≤ a0_1) = true := decide_eq_true c4
        clear c4
        by_cases c5 : a0_1 ≤ 4
        · rw [if_pos c5] at H
          have c5b0 : decide (a0_1 ≤ 4) = true := decide_eq_true c5
          clear c5
          obtain rfl := Option.some.inj H
          go_enter Try.func79, Try.ntmps79
          go_wp2_with (first | ((with_reducible refine gate_dst (N := 1) rfl ?_); refine box_event ?hg (N := 1) ?hd (cs := #[.int .i64 a0_0, .int .i64 a0_1, .int .i64 a0_2]) (t := 100) ?hr ?_; (case hd => rfl); (case hg => rfl); (case hr => first | (go_simp; done) | (go_simp; rfl)); intro gb729 hg w6 hbox hb; have n0_ := Aside0.mk (below_step (by repeat (first | (with_reducible first | exact HB.out | apply below_alloc | apply pw_below_drewN | apply below_drew1) | exact HB.out)) hb); have n1_ := Aside0.mk (hbox); have n2_ := Aside0.mk ((by rw [hg]; exact (below_size (by repeat (first | (with_reducible first | exact HB.out | apply below_alloc | apply pw_below_drewN | apply below_drew1) | exact HB.out))) : w.heap.size ≤ gb729)); have n3_ := Aside0.mk ((by rw [hg]; exact (below_size (by repeat (first | (with_reducible first | exact HB.out | apply below_alloc | apply pw_below_drewN | apply below_drew1) | exact HB.out))) : w.heap.size ≤ gb729)); clear HB; have HB := n0_; have BK729 := n1_; have GW729 := n2_; have GE729 := n3_; clear n0_ n1_ n2_ n3_; clear hb hbox hg; have hcz7_0 : w6.cell? ⟨gb729, 0, none⟩ = some (.int .i64 a0_0) := (blk_cell BK729.out 0).trans rfl; have hcz7_1 : w6.cell? ⟨gb729, 1, none⟩ = some (.int .i64 a0_1) := (blk_cell BK729.out 1).trans rfl; have hcz7_2 : w6.cell? ⟨gb729, 2, none⟩ = some (.int .i64 a0_2) := (blk_cell BK729.out 2).trans rfl; have hfz7_0 := blk_frozen BK729.out 0; have hfz7_1 := blk_frozen BK729.out 1; have hfz7_2 := blk_frozen BK729.out 2))
          go_ret
          exact ⟨by first | rfl | (simp [errW_none, errW_some] <;> rfl) | (simp [*, errW_none, errW_some] <;> rfl), by repeat (first | (with_reducible first | exact HB.out | apply below_alloc | apply pw_below_drewN | apply below_drew1 | refine below_set ?_ GE729.out) | exact HB.out)⟩
        · rw [if_neg c5] at H
          have c5b0 : decide (a0_1 ≤ 4) = false := decide_eq_false c5
          clear c5
          obtain rfl := Option.some.inj H
          go_enter Try.func79, Try.ntmps79
          go_wp2_with (first | ((with_reducible refine gate_dst (N := 1) rfl ?_); refine box_event ?hg (N := 1) ?hd (cs := #[.int .i64 a0_0, .int .i64 a0_1, .int .i64 a0_2]) (t := 100) ?hr ?_; (case hd => rfl); (case hg => rfl); (case hr => first | (go_simp; done) | (go_simp; rfl)); intro gb729 hg w8 hbox hb; have n0_ := Aside0.mk (below_step (by repeat (first | (with_reducible first | exact HB.out | apply below_alloc | apply pw_below_drewN | apply below_drew1) | exact HB.out)) hb); have n1_ := Aside0.mk (hbox); have n2_ := Aside0.mk ((by rw [hg]; exact (below_size (by repeat (first | (with_reducible first | exact HB.out | apply below_alloc | apply pw_below_drewN | apply below_drew1) | exact HB.out))) : w.heap.size ≤ gb729)); have n3_ := Aside0.mk ((by rw [hg]; exact (below_size (by repeat (first | (with_reducible first | exact HB.out | apply below_alloc | apply pw_below_drewN | apply below_drew1) | exact HB.out))) : w.heap.size ≤ gb729)); clear HB; have HB := n0_; have BK729 := n1_; have GW729 := n2_; have GE729 := n3_; clear n0_ n1_ n2_ n3_; clear hb hbox hg; have hcz9_0 : w8.cell? ⟨gb729, 0, none⟩ = some (.int .i64 a0_0) := (blk_cell BK729.out 0).trans rfl; have hcz9_1 : w8.cell? ⟨gb729, 1, none⟩ = some (.int .i64 a0_1) := (blk_cell BK729.out 1).trans rfl; have hcz9_2 : w8.cell? ⟨gb729, 2, none⟩ = some (.int .i64 a0_2) := (blk_cell BK729.out 2).trans rfl; have hfz9_0 := blk_frozen BK729.out 0; have hfz9_1 := blk_frozen BK729.out 1; have hfz9_2 := blk_frozen BK729.out 2))
          go_ret
          exact ⟨by first | rfl | (simp [errW_none, errW_some] <;> rfl) | (simp [*, errW_none, errW_some] <;> rfl), by repeat (first | (with_reducible first | exact HB.out | apply below_alloc | apply pw_below_drewN | apply below_drew1 | refine below_set ?_ GE729.out) | exact HB.out)⟩
      · rw [if_neg c4] at H
        have c4b0 : decide (1 ≤ a0_1) = false := decide_eq_false c4
        clear c4
        obtain rfl := Option.some.inj H
        go_enter Try.func79, Try.ntmps79
        go_wp2_with (first | ((with_reducible refine gate_dst (N := 1) rfl ?_); refine box_event ?hg (N := 1) ?hd (cs := #[.int .i64 a0_0, .int .i64 a0_1, .int .i64 a0_2]) (t := 100) ?hr ?_; (case hd => rfl); (case hg => rfl); (case hr => first | (go_simp; done) | (go_simp; rfl)); intro gb729 hg w10 hbox hb; have n0_ := Aside0.mk (below_step (by repeat (first | (with_reducible first | exact HB.out | apply below_alloc | apply pw_below_drewN | apply below_drew1) | exact HB.out)) hb); have n1_ := Aside0.mk (hbox); have n2_ := Aside0.mk ((by rw [hg]; exact (below_size (by repeat (first | (with_reducible first | exact HB.out | apply below_alloc | apply pw_below_drewN | apply below_drew1) | exact HB.out))) : w.heap.size ≤ gb729)); have n3_ := Aside0.mk ((by rw [hg]; exact (below_size (by repeat (first | (with_reducible first | exact HB.out | apply below_alloc | apply pw_below_drewN | apply below_drew1) | exact HB.out))) : w.heap.size ≤ gb729)); clear HB; have HB := n0_; have BK729 := n1_; have GW729 := n2_; have GE729 := n3_; clear n0_ n1_ n2_ n3_; clear hb hbox hg; have hcz11_0 : w10.cell? ⟨gb729, 0, none⟩ = some (.int .i64 a0_0) := (blk_cell BK729.out 0).trans rfl; have hcz11_1 : w10.cell? ⟨gb729, 1, none⟩ = some (.int .i64 a0_1) := (blk_cell BK729.out 1).trans rfl; have hcz11_2 : w10.cell? ⟨gb729, 2, none⟩ = some (.int .i64 a0_2) := (blk_cell BK729.out 2).trans rfl; have hfz11_0 := blk_frozen BK729.out 0; have hfz11_1 := blk_frozen BK729.out 1; have hfz11_2 := blk_frozen BK729.out 2))
        go_ret
        exact ⟨by first | rfl | (simp [errW_none, errW_some] <;> rfl) | (simp [*, errW_none, errW_some] <;> rfl), by repeat (first | (with_reducible first | exact HB.out | apply below_alloc | apply pw_below_drewN | apply below_drew1 | refine below_set ?_ GE729.out) | exact HB.out)⟩
    · rw [if_neg c3] at H
      have c3b0 : decide (a0_0 ≤ 1023) = false := decide_eq_false c3
      clear c3
      obtain rfl := Option.some.inj H
      go_enter Try.func79, Try.ntmps79
      go_wp2_with (first | ((with_reducible refine gate_dst (N := 1) rfl ?_); refine box_event ?hg (N := 1) ?hd (cs := #[.int .i64 a0_0, .int .i64 a0_1, .int .i64 a0_2]) (t := 100) ?hr ?_; (case hd => rfl); (case hg => rfl); (case hr => first | (go_simp; done) | (go_simp; rfl)); intro gb729 hg w12 hbox hb; have n0_ := Aside0.mk (below_step (by repeat (first | (with_reducible first | exact HB.out | apply below_alloc | apply pw_below_drewN | apply below_drew1) | exact HB.out)) hb); have n1_ := Aside0.mk (hbox); have n2_ := Aside0.mk ((by rw [hg]; exact (below_size (by repeat (first | (with_reducible first | exact HB.out | apply below_alloc | apply pw_below_drewN | apply below_drew1) | exact HB.out))) : w.heap.size ≤ gb729)); have n3_ := Aside0.mk ((by rw [hg]; exact (below_size (by repeat (first | (with_reducible first | exact HB.out | apply below_alloc | apply pw_below_drewN | apply below_drew1) | exact HB.out))) : w.heap.size ≤ gb729)); clear HB; have HB := n0_; have BK729 := n1_; have GW729 := n2_; have GE729 := n3_; clear n0_ n1_ n2_ n3_; clear hb hbox hg; have hcz13_0 : w12.cell? ⟨gb729, 0, none⟩ = some (.int .i64 a0_0) := (blk_cell BK729.out 0).trans rfl; have hcz13_1 : w12.cell? ⟨gb729, 1, none⟩ = some (.int .i64 a0_1) := (blk_cell BK729.out 1).trans rfl; have hcz13_2 : w12.cell? ⟨gb729, 2, none⟩ = some (.int .i64 a0_2) := (blk_cell BK729.out 2).trans rfl; have hfz13_0 := blk_frozen BK729.out 0; have hfz13_1 := blk_frozen BK729.out 1; have hfz13_2 := blk_frozen BK729.out 2))
      go_ret
      exact ⟨by first | rfl | (simp [errW_none, errW_some] <;> rfl) | (simp [*, errW_none, errW_some] <;> rfl), by repeat (first | (with_reducible first | exact HB.out | apply below_alloc | apply pw_below_drewN | apply below_drew1 | refine below_set ?_ GE729.out) | exact HB.out)⟩
  · rw [if_neg c2] at H
    have c2b0 : decide (0 ≤ a0_0) = false := decide_eq_false c2
    clear c2
    obtain rfl := Option.some.inj H
    go_enter Try.func79, Try.ntmps79
    go_wp2_with (first | ((with_reducible refine gate_dst (N := 1) rfl ?_); refine box_event ?hg (N := 1) ?hd (cs := #[.int .i64 a0_0, .int .i64 a0_1, .int .i64 a0_2]) (t := 100) ?hr ?_; (case hd => rfl); (case hg => rfl); (case hr => first | (go_simp; done) | (go_simp; rfl)); intro gb729 hg w14 hbox hb; have n0_ := Aside0.mk (below_step (by repeat (first | (with_reducible first | exact HB.out | apply below_alloc | apply pw_below_drewN | apply below_drew1) | exact HB.out)) hb); have n1_ := Aside0.mk (hbox); have n2_ := Aside0.mk ((by rw [hg]; exact (below_size (by repeat (first | (with_reducible first | exact HB.out | apply below_alloc | apply pw_below_drewN | apply below_drew1) | exact HB.out))) : w.heap.size ≤ gb729)); have n3_ := Aside0.mk ((by rw [hg]; exact (below_size (by repeat (first | (with_reducible first | exact HB.out | apply below_alloc | apply pw_below_drewN | apply below_drew1) | exact HB.out))) : w.heap.size ≤ gb729)); clear HB; have HB := n0_; have BK729 := n1_; have GW729 := n2_; have GE729 := n3_; clear n0_ n1_ n2_ n3_; clear hb hbox hg; have hcz15_0 : w14.cell? ⟨gb729, 0, none⟩ = some (.int .i64 a0_0) := (blk_cell BK729.out 0).trans rfl; have hcz15_1 : w14.cell? ⟨gb729, 1, none⟩ = some (.int .i64 a0_1) := (blk_cell BK729.out 1).trans rfl; have hcz15_2 : w14.cell? ⟨gb729, 2, none⟩ = some (.int .i64 a0_2) := (blk_cell BK729.out 2).trans rfl; have hfz15_0 := blk_frozen BK729.out 0; have hfz15_1 := blk_frozen BK729.out 1; have hfz15_2 := blk_frozen BK729.out 2))
    go_ret
    exact ⟨by first | rfl | (simp [errW_none, errW_some] <;> rfl) | (simp [*, errW_none, errW_some] <;> rfl), by repeat (first | (with_reducible first | exact HB.out | apply below_alloc | apply pw_below_drewN | apply below_drew1 | refine below_set ?_ GE729.out) | exact HB.out)⟩

end Go.Proofs.Ytlopmffdebhpfaa.G

/-! ## G131 -/
namespace Go.Proofs.Ytlopmffdebhpfaa.G
open Go.RowKit Go.Proofs.YtlopmffdebhpfaaW.PrintWords Go.Proofs.YtlopmffdebhpfaaW.PrintLast Go.Proofs.YtlopmffdebhpfaaW.PrintMore
attribute [local go_sem] max2_int min2_int max_two min_two max_three min_three max_four min_four
set_option linter.unusedVariables false
set_option linter.unusedSimpArgs false

/-! ### bytes_Equal: function 131 -/
end Go.Proofs.Ytlopmffdebhpfaa.G

/-! ## Parse -/
namespace Go.Proofs.Ytlopmffdebhpfaa.G
open Go.RowKit Go.Proofs.YtlopmffdebhpfaaW.PrintWords Go.Proofs.YtlopmffdebhpfaaW.PrintLast Go.Proofs.YtlopmffdebhpfaaW.PrintMore
set_option linter.unusedVariables false
set_option linter.unusedSimpArgs false

theorem results_cell_slot {P : Program} {fn : Func} {p q : Tmp} {ty : TypeId} (h : fn.results = #[.cell p ty, .tmp q]) (tmps : Array Value) (w : World) (g : Nat) (t : TypeId) (cs : Array Value) (fr : Nat × Nat) (d : TypeDesc) (v : Value)
    (hp : tmps.getD p undef = .pointer (some ⟨g, 0, none⟩)) (hv : tmps.getD q undef = v) (hg : w.heap[g]? = some (.cells cs t fr))
    (hu : P.underlying ty = some d) (hd : (match d with | .struct _ | .array _ _ => true | _ => false) = true) (hi : (P.info? ty).map (·.size) = some cs.size) :
    (results fn tmps).run P w = .ok (.tuple #[.agg cs, v]) w := by
  have hp' : tmps[p]?.getD undef = .pointer (some ⟨g, 0, none⟩) := by simpa using hp
  have hv' : tmps[q]?.getD undef = v := by simpa using hv
  simp [results, h, hp', hv', asAddr, run_loadVar_row w g t ty cs fr d hg hu hd hi]

end Go.Proofs.Ytlopmffdebhpfaa.G

/-! ## Err -/
namespace Go.Proofs.Ytlopmffdebhpfaa.G
open Go.RowKit Go.Extern.Stop Go.Stop Go.Extern
end Go.Proofs.Ytlopmffdebhpfaa.G

/-! ## Page -/
namespace Go.Proofs.Ytlopmffdebhpfaa.G
open Go.RowKit Go.Proofs.YtlopmffdebhpfaaW.PrintWords Go.Proofs.YtlopmffdebhpfaaW.PrintLast Go.Proofs.YtlopmffdebhpfaaW.PrintMore
set_option linter.unusedVariables false
set_option linter.unusedSimpArgs false

def impl_EncodePage.f (k : Nat) (a0 : Int) (a1 : Int) (l2 : List Int) : Option (List Int × Bool) :=
  (impl_head_valid.f a0 a1 (l2.length : Int)).bind fun hv => if hv = true then ((impl_page_bytes.f k a0 a1 (l2.length : Int) l2).bind fun pb => some (pb, true)) else some ([], false)
set_option maxHeartbeats 4000000 in
set_option maxRecDepth 100000 in
theorem impl_EncodePage.calls (k : Nat) (a0 : Int) (a1 : Int) (A2 : Option Addr) (c2 : Nat) (l2 : List Int) (r1 : List Int) (r2 : Bool) (w : World) (hr2 : Kd.C (Kd.int .u8) w A2 l2.length l2) (hc2 : l2.length ≤ c2) (h : impl_EncodePage.f k a0 a1 l2 = some (r1, r2)) :
    Calls Try.prog 22 #[.int .i64 a0, .int .i64 a1, .slice A2 l2.length c2] w fun e w' => ∃ v0_ : Value, e = .returned (.tuple #[v0_, .bool r2]) ∧ Kd.R (Kd.int .u8) 5 w' w.heap.size (fun _ => True) v0_ r1 ∧ Below w.heap.size w w' := by
  have hu102 := Try.underlying102
  have hu100 := Try.underlying100
  unfold impl_EncodePage.f at h
  obtain ⟨hv, H1, h⟩ := Option.bind_eq_some_iff.mp h
  have N1 := Aside0.mk H1
  have H := Aside0.mk h
  have HR := Aside0.mk hr2
  have HC := Aside0.mk hc2
  clear H1 h hr2 hc2
  go_enter Try.func22, Try.ntmps22
  go_wp2_with (first | ((with_reducible refine gate_dst (N := 8) rfl ?_); refine box_event ?hg (N := 8) ?hd (cs := #[.int .i64 0, .int .i64 0, .int .i64 0, .slice none 0 0]) (t := 102) ?hr ?_; (case hd => rfl); (case hg => rfl); (case hr => first | (go_simp; done) | (go_simp; rfl)); intro gp hgr w6 hbox hbel; have BP0 := Aside0.mk hbox; have HB1 := Aside0.mk hbel; have GP := Aside0.mk hgr; clear hbox hbel hgr) | ((with_reducible refine gate_ (.store 102 (.tmp 8) (.tmp 15)) rfl ?_); refine store_blk rfl rfl 102 (.tmp 8) (.tmp 15) rfl (off := 0) (u := .agg #[.int .i64 a0, .int .i64 a1, .int .i64 (l2.length : Int), .slice A2 l2.length c2]) #[.int .i64 a0, .int .i64 a1, .int .i64 (l2.length : Int), .slice A2 l2.length c2] rfl rfl BP0.out [.int .i64 a0, .int .i64 a1, .int .i64 (l2.length : Int), .slice A2 l2.length c2] rfl (by kernel_rfl) (Nat.le_of_ble_eq_true rfl) rfl rfl ?_; intro w7 hblk hgrw; have BP := Aside0.mk hblk; have HB2 := Aside0.mk (HB1.out.grown hgrw HB1.out.size (by intro q hq; cases hq; exact Nat.le_of_eq GP.out.symm)); have hcz0 : w7.cell? ⟨gp, 0, none⟩ = some (.int .i64 a0) := (blk_cell BP.out 0).trans rfl; have hcz1 : w7.cell? ⟨gp, 1, none⟩ = some (.int .i64 a1) := (blk_cell BP.out 1).trans rfl; have hcz2 : w7.cell? ⟨gp, 2, none⟩ = some (.int .i64 (l2.length : Int)) := (blk_cell BP.out 2).trans rfl; have hcz3 : w7.cell? ⟨gp, 3, none⟩ = some (.slice A2 l2.length c2) := (blk_cell BP.out 3).trans rfl; clear hblk hgrw))
  refine (impl_head_valid.calls a0 a1 _ hv _ N1.out).mono ?_
  rintro e w8 ⟨rfl, hb8⟩
  have BP2 := Aside0.mk (blk_below BP.out hb8)
  have HB3 := Aside0.mk (below_step HB2.out hb8)
  clear hb8 BP HB2 hcz0 hcz1 hcz2 hcz3
  cases hv with
  | false =>
    have h := H.out
    rw [if_neg (by decide)] at h
    simp only [Option.some.injEq, Prod.mk.injEq] at h
    obtain ⟨rfl, rfl⟩ := h
    go_wp2_with fail
    go_ret2
    exact ⟨_, rfl, Kd.R_nil _ _ _ _ _, HB3.out⟩
  | true =>
    have h := H.out
    rw [if_pos rfl] at h
    obtain ⟨pb, H2, h⟩ := Option.bind_eq_some_iff.mp h
    simp only [Option.some.injEq, Prod.mk.injEq] at h
    obtain ⟨rfl, rfl⟩ := h
    have N2 := Aside0.mk H2
    clear H2 H
    have hcz0 : w8.cell? ⟨gp, 0, none⟩ = some (.int .i64 a0) := (blk_cell BP2.out 0).trans rfl
    have hcz1 : w8.cell? ⟨gp, 1, none⟩ = some (.int .i64 a1) := (blk_cell BP2.out 1).trans rfl
    have hcz2 : w8.cell? ⟨gp, 2, none⟩ = some (.int .i64 (l2.length : Int)) := (blk_cell BP2.out 2).trans rfl
    have hcz3 : w8.cell? ⟨gp, 3, none⟩ = some (.slice A2 l2.length c2) := (blk_cell BP2.out 3).trans rfl
    go_wp2_with fail
    refine (impl_page_bytes.calls k a0 a1 _ A2 c2 l2 pb _ (Kd.C_below HR.out HB3.out) HC.out N2.out).mono ?_
    rintro e w9 ⟨v9, rfl, ho9, hb9⟩
    have HO9 := Aside0.mk (Kd.R_lower ho9 HB3.out.size)
    have HB9 := Aside0.mk (below_step HB3.out hb9)
    clear ho9 hb9
    go_wp2_with fail
    go_ret2
    exact ⟨_, rfl, HO9.out, HB9.out⟩
end Go.Proofs.Ytlopmffdebhpfaa.G

/-! ## Enc -/
namespace Go.Proofs.Ytlopmffdebhpfaa.Pure
open Go.RowKit Go.Proofs.Ytlopmffdebhpfaa.G Go.Proofs.YtlopmffdebhpfaaW.PrintWords Go.Proofs.YtlopmffdebhpfaaW.PrintLast Go.Proofs.YtlopmffdebhpfaaW.PrintMore

/-! ### the document's page -/
def okPage (id kind : Int) (n : Nat) : Prop := 0 ≤ id ∧ id ≤ 1023 ∧ 1 ≤ kind ∧ kind ≤ 4 ∧ n ≤ 240
instance (id kind : Int) (n : Nat) : Decidable (okPage id kind n) := by unfold okPage; exact inferInstance
end Go.Proofs.Ytlopmffdebhpfaa.Pure

/-! ## G15 -/
namespace Go.Proofs.Ytlopmffdebhpfaa.G
open Go.RowKit Go.Proofs.YtlopmffdebhpfaaW.PrintWords Go.Proofs.YtlopmffdebhpfaaW.PrintLast Go.Proofs.YtlopmffdebhpfaaW.PrintMore
attribute [local go_sem] max2_int min2_int max_two min_two max_three min_three max_four min_four
set_option linter.unusedVariables false
set_option linter.unusedSimpArgs false

/-! ### laws_toByteS: function 15 -/
end Go.Proofs.Ytlopmffdebhpfaa.G

/-! ## G17 -/
namespace Go.Proofs.Ytlopmffdebhpfaa.G
open Go.RowKit Go.Proofs.YtlopmffdebhpfaaW.PrintWords Go.Proofs.YtlopmffdebhpfaaW.PrintLast Go.Proofs.YtlopmffdebhpfaaW.PrintMore
attribute [local go_sem] max2_int min2_int max_two min_two max_three min_three max_four min_four
set_option linter.unusedVariables false
set_option linter.unusedSimpArgs false

/-! ### laws_eqByteS: function 17 -/
def laws_eqByteS.l0 : Nat → List Int → List Int → Int → Option (Bool)
  | 0, _, _, _ => none
  | k + 1, x0, x1, x5 => if x5 < (x0.length : Int) then (if 0 ≤ x5 then (if x5 < (x1.length : Int) then (if (rd x0 x5) = (rd x1 x5) then (laws_eqByteS.l0 k x0 x1 (wrap64 (x5 + 1))) else (some false)) else (none)) else (none)) else (some true)
def laws_eqByteS.f (k : Nat) (l0 : List Int) (l1 : List Int) : Option (Bool) := if (l0.length : Int) = (l1.length : Int) then (laws_eqByteS.l0 k l0 l1 0) else (some false)
set_option maxHeartbeats 8000000 in
set_option maxRecDepth 100000 in
theorem laws_eqByteS.calls (k : Nat) (A0 : Option Addr) (c0 : Nat) (l0 : List Int) (A1 : Option Addr) (c1 : Nat) (l1 : List Int) (r : Bool) (w : World) (hr0 : Kd.C (Kd.int .u8) w A0 l0.length l0) (hc0 : l0.length ≤ c0) (hr1 : Kd.C (Kd.int .u8) w A1 l1.length l1) (hc1 : l1.length ≤ c1) (h : laws_eqByteS.f k l0 l1 = some r) :
    Calls Try.prog 17 #[.slice A0 l0.length c0, .slice A1 l1.length c1] w fun e w' => e = .returned (.bool r) ∧ Drawn0 w w' := by
  have HR0 := Aside0.mk hr0
  have HC0 := Aside0.mk hc0
  clear hr0 hc0
  have HR1 := Aside0.mk hr1
  have HC1 := Aside0.mk hc1
  clear hr1 hc1
  have H : (if (l0.length : Int) = (l1.length : Int) then (laws_eqByteS.l0 k l0 l1 0) else (some false)) = some r := h
  clear h
  by_cases c3 : (l0.length : Int) = (l1.length : Int)
  · rw [if_pos c3] at H
    have c3b0 : ((l0.length : Int) == (l1.length : Int)) = true := beq_iff_eq.mpr c3
    have c3b1 : ((l0.length : Int) != (l1.length : Int)) = false := bne_eq_false_iff_eq.mpr c3
    have c3b2 : (l0.length == l1.length) = true := by first | simpa using c3 | (simp at c3 ⊢; omega)
    clear c3
    have H' := Aside0.mk H
    clear H
    go_enter Try.func17, Try.ntmps17
    go_wp2
    repeat (go_quiet (fail); try go_wp2)
    go_loopg [5] k (fun kq v5 w' => ∃ (x5_1 : Int), v5 = .int .i64 x5_1 ∧ Aside0 (laws_eqByteS.l0 kq l0 l1 x5_1 = some r) ∧ Aside0 (kq ≤ k) ∧ Drawn0 w w')
    case atStart => exact ⟨(0), (by first | rfl | (simp; done) | (simp [*]; done)), H', ⟨Nat.le_refl _⟩, by repeat (first | exact Drawn0.refl _ | apply Drawn0.step)⟩
    case round =>
      clear H'
      try clear c1
      try clear p2
      try clear c3
      try clear c3b0
      try clear c3b1
      try clear c3b2
      obtain ⟨x5_1, rfl, HA, HK1, ⟨m1, rfl⟩⟩ := hrel
      cases gk with
      | zero => exact absurd HA.out (by simp [laws_eqByteS.l0])
      | succ k1 =>
        have H := HA.out
        clear HA
        simp only [laws_eqByteS.l0] at H
        by_cases c4 : x5_1 < (l0.length : Int)
        · rw [if_pos c4] at H
          have c4b0 : decide (x5_1 < (l0.length : Int)) = true := decide_eq_true c4
          clear c4
          by_cases c5 : 0 ≤ x5_1
          · rw [if_pos c5] at H
            have c5b0 : decide (0 ≤ x5_1) = true := decide_eq_true c5
            clear c5
            by_cases c6 : x5_1 < (l1.length : Int)
            · rw [if_pos c6] at H
              have c6b0 : decide (x5_1 < (l1.length : Int)) = true := decide_eq_true c6
              clear c6
              by_cases c7 : (rd l0 x5_1) = (rd l1 x5_1)
              · rw [if_pos c7] at H
                have c7b0 : ((rd l0 x5_1) == (rd l1 x5_1)) = true := beq_iff_eq.mpr c7
                have c7b1 : ((rd l0 x5_1) != (rd l1 x5_1)) = false := bne_eq_false_iff_eq.mpr c7
                clear c7
                have H' := Aside0.mk H
                clear H
                have p176 : 0 ≤ (x5_1 : Int) := of_decide_eq_true (by first | (with_reducible assumption) | assumption)
                have q176 : x5_1 < (l0.length : Int) := of_decide_eq_true (by first | (with_reducible assumption) | assumption)
                obtain ⟨ad176, e176, hx176_0⟩ := Kd.at_int HR0.out x5_1 p176 q176
                cases e176
                replace p176 := eq_true p176
                replace q176 := eq_true q176
                have p177 : 0 ≤ (x5_1 : Int) := of_decide_eq_true (by first | (with_reducible assumption) | assumption)
                have q177 : x5_1 < (l1.length : Int) := of_decide_eq_true (by first | (with_reducible assumption) | assumption)
                obtain ⟨ad177, e177, hx177_0⟩ := Kd.at_int HR1.out x5_1 p177 q177
                cases e177
                replace p177 := eq_true p177
                replace q177 := eq_true q177
                go_wp2
                repeat (go_quiet (fail); try go_wp2)
                go_roundg k1
                case measure => have := HK1.out; omega
                case rel => exact ⟨(wrap64 (x5_1 + 1)), (by first | rfl | (simp; done) | (simp [*]; done)), H', ⟨by have := HK1.out; omega⟩, by repeat (first | exact Drawn0.refl _ | apply Drawn0.step)⟩
              · rw [if_neg c7] at H
                have c7b0 : ((rd l0 x5_1) == (rd l1 x5_1)) = false := beq_eq_false_iff_ne.mpr c7
                have c7b1 : ((rd l0 x5_1) != (rd l1 x5_1)) = true := bne_iff_ne.mpr c7
                obtain rfl := Option.some.inj H
                have p176 : 0 ≤ (x5_1 : Int) := of_decide_eq_true (by first | (with_reducible assumption) | assumption)
                have q176 : x5_1 < (l0.length : Int) := of_decide_eq_true (by first | (with_reducible assumption) | assumption)
                obtain ⟨ad176, e176, hx176_0⟩ := Kd.at_int HR0.out x5_1 p176 q176
                cases e176
                replace p176 := eq_true p176
                replace q176 := eq_true q176
                have p177 : 0 ≤ (x5_1 : Int) := of_decide_eq_true (by first | (with_reducible assumption) | assumption)
                have q177 : x5_1 < (l1.length : Int) := of_decide_eq_true (by first | (with_reducible assumption) | assumption)
                obtain ⟨ad177, e177, hx177_0⟩ := Kd.at_int HR1.out x5_1 p177 q177
                cases e177
                replace p177 := eq_true p177
                replace q177 := eq_true q177
                go_wp2
                repeat (go_quiet (fail); try go_wp2)
                go_ret
                exact ⟨by first | rfl | (simp; done) | (simp [*]; done), by repeat (first | exact Drawn0.refl _ | apply Drawn0.step)⟩
            · rw [if_neg c6] at H
              exact absurd H (by simp)
          · rw [if_neg c5] at H
            exact absurd H (by simp)
        · rw [if_neg c4] at H
          have c4b0 : decide (x5_1 < (l0.length : Int)) = false := decide_eq_false c4
          clear c4
          obtain rfl := Option.some.inj H
          go_wp2
          repeat (go_quiet (fail); try go_wp2)
          go_ret
          exact ⟨by first | rfl | (simp; done) | (simp [*]; done), by repeat (first | exact Drawn0.refl _ | apply Drawn0.step)⟩
  · rw [if_neg c3] at H
    have c3b0 : ((l0.length : Int) == (l1.length : Int)) = false := beq_eq_false_iff_ne.mpr c3
    have c3b1 : ((l0.length : Int) != (l1.length : Int)) = true := bne_iff_ne.mpr c3
    have c3b2 : (l0.length == l1.length) = false := by first | simpa using c3 | (simp at c3 ⊢; omega)
    obtain rfl := Option.some.inj H
    go_enter Try.func17, Try.ntmps17
    go_wp2
    repeat (go_quiet (fail); try go_wp2)
    go_ret
    exact ⟨by first | rfl | (simp; done) | (simp [*]; done), by repeat (first | exact Drawn0.refl _ | apply Drawn0.step)⟩

end Go.Proofs.Ytlopmffdebhpfaa.G

/-! ## G18 -/
namespace Go.Proofs.Ytlopmffdebhpfaa.G
open Go.RowKit Go.Proofs.YtlopmffdebhpfaaW.PrintWords Go.Proofs.YtlopmffdebhpfaaW.PrintLast Go.Proofs.YtlopmffdebhpfaaW.PrintMore
attribute [local go_sem] max2_int min2_int max_two min_two max_three min_three max_four min_four
set_option linter.unusedVariables false
set_option linter.unusedSimpArgs false

/-! ### laws_markByteS: function 18 -/
def laws_markByteS.l0 : Nat → List Int → Int → Int → Option (Int × List Int)
  | 0, _, _, _ => none
  | k + 1, x0, x1, x5 => if x5 < (x0.length : Int) then (if 0 ≤ x5 then (laws_markByteS.l0 k (x0.set (x5 : Int).toNat ((x1) % 256)) (wrap64 (x1 + 1)) (wrap64 (x5 + 1))) else (none)) else (some (x1, x0))
def laws_markByteS.f (k : Nat) (l0 : List Int) (a1 : Int) : Option (Int × List Int) := laws_markByteS.l0 k l0 a1 0
set_option maxHeartbeats 8000000 in
set_option maxRecDepth 100000 in
theorem laws_markByteS.calls (k : Nat) (P0_ : Nat → Prop) (u9000_ : Value) (l0 : List Int) (a1 : Int) (r1 : Int) (r2 : List Int) (w0 w : World) (hB : Below w0.heap.size w0 w) (ho0 : Kd.R (Kd.int .u8) 5 w w0.heap.size P0_ u9000_ l0) (h : laws_markByteS.f k l0 a1 = some (r1, r2)) :
    Calls Try.prog 18 #[u9000_, .int .i64 a1] w fun e w' => e = .returned (.int .i64 r1) ∧ Kd.R (Kd.int .u8) 5 w' w0.heap.size (fun k_ => (P0_ k_ ∨ w.heap.size ≤ k_)) u9000_ r2 ∧ Below w0.heap.size w0 w' ∧ Kept w w' (fun k_ => P0_ k_) := by
  have HO0 := Aside0.mk (show Kd.R (Kd.int .u8) 5 w w0.heap.size (fun k_ => (P0_ k_ ∨ w.heap.size ≤ k_)) u9000_ l0 from Kd.R_mono ho0 (fun k_ hk => (.inl hk)))
  have HK := Aside0.mk (Kept.refl w (fun k_ => P0_ k_))
  have HW0 := Aside0.mk hB.size
  have HB := Aside0.mk hB
  clear hB
  have H : (laws_markByteS.l0 k l0 a1 0) = some (r1, r2) := h
  clear h
  have H' := Aside0.mk H
  clear H
  go_enter Try.func18, Try.ntmps18
  go_wp2
  go_loopg [1, 5] k (fun kq v1 v5 w' => ∃ (x0_1 : List Int) (x1_1 : Int) (x5_1 : Int), v1 = .int .i64 x1_1 ∧ v5 = .int .i64 x5_1 ∧ Aside0 (laws_markByteS.l0 kq x0_1 x1_1 x5_1 = some (r1, r2)) ∧ Aside0 (kq ≤ k) ∧ Aside0 (Kd.R (Kd.int .u8) 5 w' w0.heap.size (fun k_ => (P0_ k_ ∨ w.heap.size ≤ k_)) u9000_ x0_1) ∧ Aside0 (Kept w w' (fun k_ => P0_ k_)) ∧ Aside0 (Below w0.heap.size w0 w'))
  case atStart => exact ⟨(l0), (a1), (0), (by first | rfl | (simp; done) | (simp [*]; done)), (by first | rfl | (simp; done) | (simp [*]; done)), H', ⟨Nat.le_refl _⟩, ⟨by (with_reducible repeat (first | apply Kd.R_alloc | apply Kd.R_drewN | apply Kd.R_drew)); exact HO0.out⟩, ⟨by repeat (first | (with_reducible first | exact HK.out | apply Kept.alloc | apply Kept.drewN | apply Kept.drew) | exact HK.out)⟩, ⟨by repeat (first | (with_reducible first | exact HB.out | apply below_alloc | apply pw_below_drewN | apply below_drew1) | exact HB.out)⟩⟩
  case round =>
    clear H'
    try clear c1
    try clear p2
    obtain ⟨x0_1, x1_1, x5_1, rfl, rfl, HA, HK1, HO_0, HK, HB⟩ := hrel
    cases gk with
    | zero => exact absurd HA.out (by simp [laws_markByteS.l0])
    | succ k1 =>
      have H := HA.out
      clear HA
      simp only [laws_markByteS.l0] at H
      by_cases c3 : x5_1 < (x0_1.length : Int)
      · rw [if_pos c3] at H
        have c3b0 : decide (x5_1 < (x0_1.length : Int)) = true := decide_eq_true c3
        clear c3
        by_cases c4 : 0 ≤ x5_1
        · rw [if_pos c4] at H
          have c4b0 : decide (0 ≤ x5_1) = true := decide_eq_true c4
          clear c4
          obtain ⟨y178, hy178⟩ : ∃ y_ : List Int, y_ = (x0_1.set (x5_1 : Int).toNat ((x1_1) % 256)) := ⟨_, rfl⟩
          replace H : (laws_markByteS.l0 k1 y178 (wrap64 (x1_1 + 1)) (wrap64 (x5_1 + 1))) = some (r1, r2) := by first | (rw [hy178]; with_reducible exact H) | (have H2_ := (Option.bind_some _ _).symm.trans H; rw [hy178]; with_reducible exact H2_) | (have H2_ := (Option.bind_some _ _).symm.trans H; with_reducible exact H2_) | with_reducible exact H | (rw [hy178]; exact H) | exact H
          have Ny178 := Aside0.mk hy178
          clear hy178
          have H' := Aside0.mk H
          clear H
          obtain ⟨Ao6, co6, eo6⟩ := Kd.R_slice HO_0.out
          subst eo6
          have p5 : 0 ≤ (x5_1 : Int) := of_decide_eq_true (by first | (with_reducible assumption) | assumption)
          have q5 : (x5_1 : Int) < ((x0_1.length : Int) : Int) := of_decide_eq_true (by first | (with_reducible assumption) | assumption)
          obtain ⟨go5, co5, eo5, gb5, gl5, cl5, HG5⟩ := Kd.R_form HO_0.out (by omega)
          (first | cases eo5 | (injection eo5 with ea_ en_ ec_; (first | subst ea_ | (injection ea_ with ea_; subst ea_)); subst ec_; clear en_))
          have GB5 := Aside0.mk gb5
          have GG5 := Aside0.mk HG5
          clear gb5 gl5 HG5
          have HMgo5 := Aside0.mk (show (P0_ go5 ∨ w.heap.size ≤ go5) from (HO_0.out.1 _ rfl))
          obtain ⟨hx5_0, hf5_0⟩ := Kd.R_celln 0 HO_0.out (x5_1 : Int) p5 q5
          replace p5 := eq_true p5
          replace q5 := eq_true q5
          have HP7 := Kd.R_putg HO_0.out (x5_1 : Int) ((x1_1) % 256)
          go_wp2_with (first | ((with_reducible refine gate_store (t := 5) (p := 16) rfl ?_); refine store_event (t := 5) (p := 16) (v := ?vo_w8) (w1 := (wr.setCell ⟨go5, (x5_1 : Int).toNat, none⟩ (.int .u8 ((x1_1) % 256)))) ?hg ?ho ?hn ?hr ?_; (case ho => rfl); (case hg => rfl); (case hn => rfl); (case hr => first | (go_simp; done) | (go_simp; rfl)); intro w8 hw; have hg : wr.grownBy w8 (some go5) := (by rw [hw]; exact HP7.2); have hp_ : Kd.R (Kd.int .u8) 5 w8 w0.heap.size (fun k_ => (P0_ k_ ∨ w.heap.size ≤ k_)) (.slice (some ⟨go5, 0, none⟩) x0_1.length co6) y178 := (by rw [hw, Ny178.out]; exact HP7.1); clear HP7; have n0_ := Aside0.mk (hp_); have n1_ := Aside0.mk ((by rw [hw]; exact below_set (HB.out) GB5.out : Below w0.heap.size w0 w8)); have n2_ := Aside0.mk (Kept.of_grown (S := (fun k_ => P0_ k_)) hg (by repeat (first | (with_reducible first | exact HK.out | apply Kept.alloc | apply Kept.drewN | apply Kept.drew) | exact HK.out)) (fun k_ e_ => (HO_0.out.1 k_ e_))); clear HO_0; clear HB; clear HK; have HO_0 := n0_; have HB := n1_; have HK := n2_; clear n0_ n1_ n2_; clear hg hw hp_))
          go_roundg k1
          case measure => have := HK1.out; omega
          case rel => exact ⟨(y178), (wrap64 (x1_1 + 1)), (wrap64 (x5_1 + 1)), (by first | rfl | (simp; done) | (simp [*]; done)), (by first | rfl | (simp; done) | (simp [*]; done)), H', ⟨by have := HK1.out; omega⟩, ⟨by (with_reducible repeat (first | apply Kd.R_alloc | apply Kd.R_drewN | apply Kd.R_drew)); exact HO_0.out⟩, ⟨by repeat (first | (with_reducible first | exact HK.out | apply Kept.alloc | apply Kept.drewN | apply Kept.drew) | exact HK.out)⟩, ⟨by repeat (first | (with_reducible first | exact HB.out | apply below_alloc | apply pw_below_drewN | apply below_drew1) | exact HB.out)⟩⟩
        · rw [if_neg c4] at H
          exact absurd H (by simp)
      · rw [if_neg c3] at H
        have c3b0 : decide (x5_1 < (x0_1.length : Int)) = false := decide_eq_false c3
        clear c3
        simp only [Option.some.injEq, Prod.mk.injEq] at H
        obtain ⟨rfl, rfl⟩ := H
        obtain ⟨Ao9, co9, eo9⟩ := Kd.R_slice HO_0.out
        subst eo9
        go_wp2
        go_ret
        exact ⟨by first | rfl | (simp [errW_none, errW_some] <;> rfl) | (simp [*, errW_none, errW_some] <;> rfl), by (with_reducible repeat (first | apply Kd.R_alloc | apply Kd.R_drewN | apply Kd.R_drew)); exact HO_0.out, by repeat (first | (with_reducible first | exact HB.out | apply below_alloc | apply pw_below_drewN | apply below_drew1) | exact HB.out), by repeat (first | (with_reducible first | exact HK.out | apply Kept.alloc | apply Kept.drewN | apply Kept.drew) | exact HK.out)⟩

end Go.Proofs.Ytlopmffdebhpfaa.G

/-! ## G19 -/
namespace Go.Proofs.Ytlopmffdebhpfaa.G
open Go.RowKit Go.Proofs.YtlopmffdebhpfaaW.PrintWords Go.Proofs.YtlopmffdebhpfaaW.PrintLast Go.Proofs.YtlopmffdebhpfaaW.PrintMore
attribute [local go_sem] max2_int min2_int max_two min_two max_three min_three max_four min_four
set_option linter.unusedVariables false
set_option linter.unusedSimpArgs false

/-! ### laws_heldByteS: function 19 -/
def laws_heldByteS.l0 : Nat → List Int → Int → Int → Option (Int)
  | 0, _, _, _ => none
  | k + 1, x0, x1, x5 => if x5 < (x0.length : Int) then (if 0 ≤ x5 then (if (rd x0 x5) = ((x1) % 256) then (laws_heldByteS.l0 k x0 (wrap64 (x1 + 1)) (wrap64 (x5 + 1))) else (some (-1))) else (none)) else (some x1)
def laws_heldByteS.f (k : Nat) (l0 : List Int) (a1 : Int) : Option (Int) := laws_heldByteS.l0 k l0 a1 0
set_option maxHeartbeats 8000000 in
set_option maxRecDepth 100000 in
theorem laws_heldByteS.calls (k : Nat) (A0 : Option Addr) (c0 : Nat) (l0 : List Int) (a1 : Int) (r : Int) (w : World) (hr0 : Kd.C (Kd.int .u8) w A0 l0.length l0) (hc0 : l0.length ≤ c0) (h : laws_heldByteS.f k l0 a1 = some r) :
    Calls Try.prog 19 #[.slice A0 l0.length c0, .int .i64 a1] w fun e w' => e = .returned (.int .i64 r) ∧ Drawn0 w w' := by
  have HR0 := Aside0.mk hr0
  have HC0 := Aside0.mk hc0
  clear hr0 hc0
  have H : (laws_heldByteS.l0 k l0 a1 0) = some r := h
  clear h
  have H' := Aside0.mk H
  clear H
  go_enter Try.func19, Try.ntmps19
  go_wp2
  go_loopg [1, 5] k (fun kq v1 v5 w' => ∃ (x1_1 : Int) (x5_1 : Int), v1 = .int .i64 x1_1 ∧ v5 = .int .i64 x5_1 ∧ Aside0 (laws_heldByteS.l0 kq l0 x1_1 x5_1 = some r) ∧ Aside0 (kq ≤ k) ∧ Drawn0 w w')
  case atStart => exact ⟨(a1), (0), (by first | rfl | (simp; done) | (simp [*]; done)), (by first | rfl | (simp; done) | (simp [*]; done)), H', ⟨Nat.le_refl _⟩, by repeat (first | exact Drawn0.refl _ | apply Drawn0.step)⟩
  case round =>
    clear H'
    try clear c1
    try clear p2
    obtain ⟨x1_1, x5_1, rfl, rfl, HA, HK1, ⟨m1, rfl⟩⟩ := hrel
    cases gk with
    | zero => exact absurd HA.out (by simp [laws_heldByteS.l0])
    | succ k1 =>
      have H := HA.out
      clear HA
      simp only [laws_heldByteS.l0] at H
      by_cases c3 : x5_1 < (l0.length : Int)
      · rw [if_pos c3] at H
        have c3b0 : decide (x5_1 < (l0.length : Int)) = true := decide_eq_true c3
        clear c3
        by_cases c4 : 0 ≤ x5_1
        · rw [if_pos c4] at H
          have c4b0 : decide (0 ≤ x5_1) = true := decide_eq_true c4
          clear c4
          by_cases c5 : (rd l0 x5_1) = ((x1_1) % 256)
          · rw [if_pos c5] at H
            have c5b0 : ((rd l0 x5_1) == ((x1_1) % 256)) = true := beq_iff_eq.mpr c5
            have c5b1 : ((rd l0 x5_1) != ((x1_1) % 256)) = false := bne_eq_false_iff_eq.mpr c5
            clear c5
            have H' := Aside0.mk H
            clear H
            have p179 : 0 ≤ (x5_1 : Int) := of_decide_eq_true (by first | (with_reducible assumption) | assumption)
            have q179 : x5_1 < (l0.length : Int) := of_decide_eq_true (by first | (with_reducible assumption) | assumption)
            obtain ⟨ad179, e179, hx179_0⟩ := Kd.at_int HR0.out x5_1 p179 q179
            cases e179
            replace p179 := eq_true p179
            replace q179 := eq_true q179
            go_wp2
            go_roundg k1
            case measure => have := HK1.out; omega
            case rel => exact ⟨(wrap64 (x1_1 + 1)), (wrap64 (x5_1 + 1)), (by first | rfl | (simp; done) | (simp [*]; done)), (by first | rfl | (simp; done) | (simp [*]; done)), H', ⟨by have := HK1.out; omega⟩, by repeat (first | exact Drawn0.refl _ | apply Drawn0.step)⟩
          · rw [if_neg c5] at H
            have c5b0 : ((rd l0 x5_1) == ((x1_1) % 256)) = false := beq_eq_false_iff_ne.mpr c5
            have c5b1 : ((rd l0 x5_1) != ((x1_1) % 256)) = true := bne_iff_ne.mpr c5
            obtain rfl := Option.some.inj H
            have p179 : 0 ≤ (x5_1 : Int) := of_decide_eq_true (by first | (with_reducible assumption) | assumption)
            have q179 : x5_1 < (l0.length : Int) := of_decide_eq_true (by first | (with_reducible assumption) | assumption)
            obtain ⟨ad179, e179, hx179_0⟩ := Kd.at_int HR0.out x5_1 p179 q179
            cases e179
            replace p179 := eq_true p179
            replace q179 := eq_true q179
            go_wp2
            go_ret
            exact ⟨by first | rfl | (simp; done) | (simp [*]; done), by repeat (first | exact Drawn0.refl _ | apply Drawn0.step)⟩
        · rw [if_neg c4] at H
          exact absurd H (by simp)
      · rw [if_neg c3] at H
        have c3b0 : decide (x5_1 < (l0.length : Int)) = false := decide_eq_false c3
        clear c3
        obtain rfl := Option.some.inj H
        go_wp2
        go_ret
        exact ⟨by first | rfl | (simp; done) | (simp [*]; done), by repeat (first | exact Drawn0.refl _ | apply Drawn0.step)⟩

end Go.Proofs.Ytlopmffdebhpfaa.G

/-! ## Dec -/
namespace Go.Proofs.Ytlopmffdebhpfaa.Pure
open Go.RowKit Go.Proofs.Ytlopmffdebhpfaa.G Go.Proofs.YtlopmffdebhpfaaW.PrintWords Go.Proofs.YtlopmffdebhpfaaW.PrintLast Go.Proofs.YtlopmffdebhpfaaW.PrintMore

theorem eq_l0 (k : Nat) : ∀ (a b pa pb : List Int), pa.length = pb.length → a.length = b.length → (pa ++ a).length ≤ 9223372036854775806 →
    laws_eqByteS.l0 (k + a.length + 1) (pa ++ a) (pb ++ b) (pa.length : Int) = some (decide (a = b))
  | [], [], pa, pb, hp, hl, hm => by
    unfold laws_eqByteS.l0
    rw [if_neg (by simp)]
    simp
  | [], y :: b, pa, pb, hp, hl, hm => by simp at hl
  | x :: a, [], pa, pb, hp, hl, hm => by simp at hl
  | x :: a, y :: b, pa, pb, hp, hl, hm => by
    have h1 : (pa ++ x :: a).length = pa.length + a.length + 1 := by simp; omega
    have h2 : (pb ++ y :: b).length = pa.length + b.length + 1 := by simp; omega
    rw [show k + (x :: a).length + 1 = (k + a.length + 1) + 1 by simp; omega]
    conv => lhs; unfold laws_eqByteS.l0
    rw [if_pos (by omega), if_pos (by omega), if_pos (by omega), rd_mid]
    have e : rd (pb ++ y :: b) (pa.length : Int) = y := by rw [hp]; exact rd_mid _ _ _
    rw [e]
    by_cases hxy : x = y
    · rw [if_pos hxy, w64 (by omega) (by omega)]
      have ih := eq_l0 k a b (pa ++ [x]) (pb ++ [y]) (by simp [hp]) (by simpa using hl) (by simpa using hm)
      rw [List.append_assoc, List.append_assoc, List.singleton_append, List.singleton_append, show (((pa ++ [x]).length : Nat) : Int) = (pa.length : Int) + 1 by simp] at ih
      rw [ih]
      subst hxy
      simp
    · rw [if_neg hxy, decide_eq_false (by simp [hxy])]
theorem eqB {a b : List Int} (hm : a.length ≤ 9223372036854775806) : Cv (fun k => laws_eqByteS.f k a b) (decide (a = b)) := by
  unfold laws_eqByteS.f
  by_cases h : (a.length : Int) = (b.length : Int)
  · exact Cv.pos h (Cv.from (m := a.length + 1) (fun k => eq_l0 k a b [] [] rfl (by omega) (by simpa using hm)))
  · refine Cv.neg h (Cv.of ?_)
    rw [decide_eq_false (fun e => h (by rw [e]))]
def marks : Nat → Int → List Int
  | 0, _ => []
  | n + 1, m => (m % 256) :: marks n (m + 1)
theorem marks_length : ∀ (n : Nat) (m : Int), (marks n m).length = n
  | 0, _ => rfl
  | n + 1, m => by simp [marks, marks_length n]
theorem mark_l0 (k : Nat) : ∀ (r pre : List Int) (m : Int), 0 ≤ m → m + r.length ≤ 9223372036854775806 → (pre ++ r).length ≤ 9223372036854775806 →
    laws_markByteS.l0 (k + r.length + 1) (pre ++ r) m (pre.length : Int) = some (m + r.length, pre ++ marks r.length m)
  | [], pre, m, h0, h1, hm => by
    unfold laws_markByteS.l0
    rw [if_neg (by simp)]
    simp [marks]
  | x :: r, pre, m, h0, h1, hm => by
    have h2 : (pre ++ x :: r).length = pre.length + r.length + 1 := by simp; omega
    have h3 : (x :: r).length = r.length + 1 := rfl
    rw [show k + (x :: r).length + 1 = (k + r.length + 1) + 1 by simp; omega]
    conv => lhs; unfold laws_markByteS.l0
    rw [if_pos (by omega), if_pos (by omega), w64 (n := m + 1) (by omega) (by omega), w64 (by omega) (by omega)]
    have e : (pre ++ x :: r).set ((pre.length : Int)).toNat (m % 256) = (pre ++ [m % 256]) ++ r := by
      rw [Int.toNat_natCast, List.set_append_right _ _ (Nat.le_refl _), Nat.sub_self, List.set_cons_zero, List.append_assoc, List.singleton_append]
    rw [e]
    have ih := mark_l0 k r (pre ++ [m % 256]) (m + 1) (by omega) (by omega) (by simpa using hm)
    rw [show (((pre ++ [m % 256]).length : Nat) : Int) = (pre.length : Int) + 1 by simp] at ih
    rw [ih, List.append_assoc, List.singleton_append]
    simp only [marks, List.length_cons]
    congr 2
    omega
theorem held_l0 (k : Nat) : ∀ (n : Nat) (pre : List Int) (m : Int), 0 ≤ m → m + n ≤ 9223372036854775806 → pre.length + n ≤ 9223372036854775806 →
    laws_heldByteS.l0 (k + n + 1) (pre ++ marks n m) m (pre.length : Int) = some (m + n)
  | 0, pre, m, h0, h1, hm => by
    unfold laws_heldByteS.l0
    rw [if_neg (by simp [marks])]
    simp
  | n + 1, pre, m, h0, h1, hm => by
    have h2 : (pre ++ marks (n + 1) m).length = pre.length + n + 1 := by simp [marks_length]; omega
    rw [show k + (n + 1) + 1 = (k + n + 1) + 1 by omega]
    conv => lhs; unfold laws_heldByteS.l0
    have e : rd (pre ++ marks (n + 1) m) (pre.length : Int) = m % 256 := rd_mid pre _ _
    rw [if_pos (by omega), if_pos (by omega), e, if_pos rfl, w64 (n := m + 1) (by omega) (by omega), w64 (by omega) (by omega)]
    have ih := held_l0 k n (pre ++ [m % 256]) (m + 1) (by omega) (by omega) (by simp; omega)
    rw [show (((pre ++ [m % 256]).length : Nat) : Int) = (pre.length : Int) + 1 by simp, List.append_assoc, List.singleton_append] at ih
    rw [show marks (n + 1) m = (m % 256) :: marks n (m + 1) from rfl, ih]
    congr 1
    omega
/-! ### reading -/
end Go.Proofs.Ytlopmffdebhpfaa.Pure

/-! ## Mark -/
namespace Go.Proofs.Ytlopmffdebhpfaa.G
open Go.RowKit Go.Proofs.YtlopmffdebhpfaaW.PrintWords Go.Proofs.YtlopmffdebhpfaaW.PrintLast Go.Proofs.YtlopmffdebhpfaaW.PrintMore
open Go.Proofs.Ytlopmffdebhpfaa.Pure (marks marks_length mark_l0 Cv)
set_option linter.unusedVariables false
set_option linter.unusedSimpArgs false
/-- The numbers in rows. -/
def totL : List (List Int) → Nat
  | [] => 0
  | l :: r => l.length + totL r
def mkSS : List (List Int) → Int → List (List Int)
  | [], _ => []
  | l :: r, m => marks l.length m :: mkSS r (m + l.length)
theorem totL_snoc : ∀ (a : List (List Int)) (l : List Int), totL (a ++ [l]) = totL a + l.length
  | [], l => by simp [totL]
  | x :: a, l => by
    have := totL_snoc a l
    simp only [List.cons_append, totL, this]
    omega
theorem mkSS_length : ∀ (a : List (List Int)) (m : Int), (mkSS a m).length = a.length
  | [], _ => rfl
  | x :: a, m => by simp [mkSS, mkSS_length a]
theorem mkSS_snoc : ∀ (a : List (List Int)) (l : List Int) (m : Int), mkSS (a ++ [l]) m = mkSS a m ++ [marks l.length (m + totL a)]
  | [], l, m => by simp [mkSS, totL]
  | x :: a, l, m => by
    simp only [List.cons_append, mkSS, mkSS_snoc a l, totL]
    congr 4
    omega
theorem totL_take_le (ls : List (List Int)) (n : Nat) : totL (ls.take n) ≤ totL ls := by
  induction ls generalizing n with
  | nil => simp
  | cons l r ih =>
    cases n with
    | zero => simp [totL]
    | succ n => simp only [List.take_succ_cons, totL]; have := ih n; omega
theorem take_snoc_getD {α : Type} (ls : List α) (z : α) (n : Nat) (h : n < ls.length) : ls.take (n + 1) = ls.take n ++ [ls.getD n z] := by
  rw [List.take_add_one, List.getElem?_eq_getElem h, List.getD_eq_getElem?_getD, List.getElem?_eq_getElem h]
  rfl
theorem cur_getD {α : Type} (a ls : List α) (z : α) (n : Nat) (ha : a.length = n) : (a ++ ls.drop n).getD n z = ls.getD n z := by
  rw [List.getD_eq_getElem?_getD, List.getElem?_append_right (by omega), List.getElem?_drop, List.getD_eq_getElem?_getD]
  congr 2
  omega
theorem cur_set {α : Type} (a ls : List α) (x : α) (n : Nat) (ha : a.length = n) (h : n < ls.length) : (a ++ ls.drop n).set n x = (a ++ [x]) ++ ls.drop (n + 1) := by
  rw [List.set_append_right _ _ (by omega), show n - a.length = 0 by omega, List.drop_eq_getElem_cons h, List.set_cons_zero, List.append_assoc, List.singleton_append]
theorem keptTrans {w W W2 : World} {P S : Nat → Prop} (h : Kept w W P) (h2 : Kept W W2 S) (hs : ∀ k, S k → P k) : Kept w W2 P :=
  ⟨Nat.le_trans h.1 h2.1, fun i hi hn => (h2.2 i (Nat.lt_of_lt_of_le hi h.1) (fun hk => hn (hs i hk))).trans (h.2 i hi hn)⟩
theorem markB_at {l : List Int} {m : Int} (h0 : 0 ≤ m) (h1 : m + l.length ≤ 9223372036854775806) : ∃ k, laws_markByteS.f k l m = some (m + l.length, marks l.length m) := by
  refine ⟨0 + l.length + 1, ?_⟩
  have h := mark_l0 0 l [] m h0 h1 (by simp; omega)
  unfold laws_markByteS.f
  exact h
set_option maxHeartbeats 4000000 in
set_option maxRecDepth 100000 in
theorem laws_markByteSS.calls (P : Nat → Prop) (v : Value) (ls : List (List Int)) (m : Int) (w0 w : World) (hB : Below w0.heap.size w0 w) (ho : Kd.S (Kd.slice 5 (Kd.int .u8)) 22 w w0.heap.size P v ls) (h0 : 0 ≤ m) (h1 : m + totL ls ≤ 4611686018427387904) :
    Calls Try.prog 93 #[v, .int .i64 m] w fun e w' => e = .returned (.int .i64 (m + totL ls)) ∧ Kd.S (Kd.slice 5 (Kd.int .u8)) 22 w' w0.heap.size P v (mkSS ls m) ∧ Below w0.heap.size w0 w' ∧ Kept w w' P := by
  obtain ⟨A, c, rfl⟩ := Kd.S_slice ho
  have HX : Aside0 (ls.length ≤ 9223372036854775807) := ⟨(Kd.S_reads' ho).2.2.2.1⟩
  have HS0 := Aside0.mk ho
  have HB0 := Aside0.mk hB
  have HM0 := Aside0.mk h0
  have HM1 := Aside0.mk h1
  clear ho hB h0 h1
  go_enter Try.func93, Try.ntmps93
  go_wp2_with fail
  go_loopg [1, 5] ls.length (fun gk v1 v5 w' => ∃ x : Int, v1 = .int .i64 (m + totL (ls.take x.toNat)) ∧ v5 = .int .i64 x ∧ Aside0 (0 ≤ x ∧ (gk : Int) + x = (ls.length : Int)) ∧ Aside0 (Kd.S (Kd.slice 5 (Kd.int .u8)) 22 w' w0.heap.size P (.slice A ls.length c) (mkSS (ls.take x.toNat) m ++ ls.drop x.toNat)) ∧ Aside0 (Below w0.heap.size w0 w') ∧ Aside0 (Kept w w' P))
  case atStart =>
    exact ⟨0, by simp [totL], rfl, ⟨by omega⟩, ⟨by simpa [mkSS] using HS0.out⟩, HB0, ⟨Kept.refl _ _⟩⟩
  case round =>
    clear HS0 HB0
    obtain ⟨x, rfl, rfl, HXK, HS, HB, HK⟩ := hrel
    cases gk with
    | zero =>
      have hx : x = (ls.length : Int) := by have := HXK.out; omega
      subst hx
      have c4b0 : decide ((ls.length : Int) < (ls.length : Int)) = false := decide_eq_false (by omega)
      have HS2 := HS.out
      rw [Int.toNat_natCast, List.take_length, List.drop_length, List.append_nil] at HS2
      go_wp2_with fail
      go_ret
      exact ⟨by first | rfl | (rw [Int.toNat_natCast, List.take_length]; rfl), HS2, HB.out, HK.out⟩
    | succ gk =>
      have p0 : 0 ≤ x := HXK.out.1
      have q0 : x < (ls.length : Int) := by have := HXK.out; omega
      have HP0 := Aside0.mk p0
      have HQ0 := Aside0.mk q0
      have hxl : x.toNat < ls.length := by omega
      have hml : (mkSS (ls.take x.toNat) m).length = x.toNat := by rw [mkSS_length, List.length_take]; omega
      have hpos : 0 < (mkSS (ls.take x.toNat) m ++ ls.drop x.toNat).length := by simp [mkSS_length]; omega
      obtain ⟨g, cap, ev, _⟩ := Kd.S_form HS.out hpos
      injection ev with ev1 ev2 ev3
      subst ev1
      subst ev3
      obtain ⟨oki, cc, _, hM, hcc, hoki, hH⟩ := Kd.S_lend HS.out ([] : List Int) x p0 q0
      obtain ⟨vi, rfl, hRi⟩ := hM
      rw [cur_getD _ _ _ _ hml] at hRi
      have hcell := hcc 0 vi rfl
      rw [show (Kd.slice 5 (Kd.int .u8)).sz = 1 from rfl, Nat.mul_one, Nat.add_zero] at hcell
      clear hcc
      have htot : totL (ls.take (x.toNat + 1)) = totL (ls.take x.toNat) + (ls.getD x.toNat []).length := by rw [take_snoc_getD ls [] _ hxl, totL_snoc]
      have hle := totL_take_le ls (x.toNat + 1)
      obtain ⟨k, hf⟩ := markB_at (l := ls.getD x.toNat []) (m := m + totL (ls.take x.toNat)) (by have := HM0.out; omega) (by have := HM1.out; omega)
      have hsn := take_snoc_getD ls [] _ hxl
      generalize ls.getD x.toNat [] = li at hRi htot hf hsn
      have HSN := Aside0.mk hsn
      have HF := Aside0.mk hf
      have HRI := Aside0.mk hRi
      have HH := Aside0.mk hH
      have HOK := Aside0.mk hoki
      have HTOT := Aside0.mk htot
      have HML := Aside0.mk hml
      have HXL := Aside0.mk hxl
      clear hsn hf hRi hH hoki htot hle hml hxl hpos ev2 HS
      have c4b0 : decide (x < (ls.length : Int)) = true := decide_eq_true q0
      have c4b1 : decide (0 ≤ x) = true := decide_eq_true p0
      replace p0 := eq_true p0
      replace q0 := eq_true q0
      go_wp2_with fail
      refine (laws_markByteS.calls k (fun k_ => some k_ = vi.ownBlock) vi li (m + totL (ls.take x.toNat)) _ _ w0 _ HB.out (Kd.R_tight rfl HRI.out) HF.out).mono ?_
      rintro e w2 ⟨rfl, hy, hb, hkp⟩
      have HS2 := Kd.H_back (Kd.H_step HH.out (fun k_ hk hn hlt => hkp.2 k_ hlt (fun e => hn (HRI.out.1 k_ e.symm)))) (x' := marks li.length (m + totL (ls.take x.toNat))) ⟨vi, rfl, Kd.R_reok rfl hy (fun k_ e_ => HRI.out.1 k_ e_)⟩ (fun _ hk => hk)
      rw [cur_set _ _ _ _ HML.out HXL.out] at HS2
      have HS3 := Aside0.mk HS2
      have HB3 := Aside0.mk hb
      have HK3 := Aside0.mk (keptTrans HK.out hkp (fun k_ hk => (HOK.out k_ (HRI.out.1 k_ hk.symm)).1))
      clear hy hb hkp HS2 HB HK HH HRI
      go_wp2_with fail
      go_roundg gk
      case measure => omega
      case rel =>
        have hw1 : wrap64 (x + 1) = x + 1 := by have := HP0.out; have := HQ0.out; have := HX.out; unfold wrap64; omega
        have ht1 : (x + 1).toNat = x.toNat + 1 := by have := HP0.out; omega
        refine ⟨x + 1, ?_, by first | rfl | (rw [hw1]), ⟨by have := HXK.out; omega⟩, ⟨?_⟩, HB3, HK3⟩
        · rw [ht1, HTOT.out]
          congr 1
          omega
        · rw [ht1, HSN.out, mkSS_snoc]
          exact HS3.out
def totP : List S185 → Nat
  | [] => 0
  | p :: r => (1 + p.f1.length) + totP r
def mkPS : List S185 → Int → List S185
  | [], _ => []
  | p :: r, m => ⟨m, marks p.f1.length (m + 1)⟩ :: mkPS r (m + ((1 + p.f1.length : Nat) : Int))
theorem totP_snoc : ∀ (a : List S185) (l : S185), totP (a ++ [l]) = totP a + (1 + l.f1.length)
  | [], l => by simp [totP]
  | x :: a, l => by
    have := totP_snoc a l
    simp only [List.cons_append, totP, this]
    omega
theorem mkPS_length : ∀ (a : List S185) (m : Int), (mkPS a m).length = a.length
  | [], _ => rfl
  | x :: a, m => by simp [mkPS, mkPS_length a]
theorem mkPS_snoc : ∀ (a : List S185) (l : S185) (m : Int), mkPS (a ++ [l]) m = mkPS a m ++ [⟨m + totP a, marks l.f1.length (m + totP a + 1)⟩]
  | [], l, m => by simp [mkPS, totP]
  | x :: a, l, m => by
    simp only [List.cons_append, mkPS, mkPS_snoc a l, totP]
    have e : m + ((1 + x.f1.length : Nat) : Int) + (totP a : Int) = m + (((1 + x.f1.length) + totP a : Nat) : Int) := by omega
    rw [e]
theorem totP_take_le (ls : List S185) (n : Nat) : totP (ls.take n) ≤ totP ls := by
  induction ls generalizing n with
  | nil => simp
  | cons l r ih =>
    cases n with
    | zero => simp [totP]
    | succ n => simp only [List.take_succ_cons, totP]; have := ih n; omega
set_option maxHeartbeats 4000000 in
set_option maxRecDepth 100000 in
theorem laws_markPendS.calls (P : Nat → Prop) (v : Value) (ls : List S185) (m : Int) (w0 w : World) (hB : Below w0.heap.size w0 w) (ho : Kd.S k185 185 w w0.heap.size P v ls) (h0 : 0 ≤ m) (h1 : m + totP ls ≤ 4611686018427387904) :
    Calls Try.prog 94 #[v, .int .i64 m] w fun e w' => e = .returned (.int .i64 (m + totP ls)) ∧ Kd.S k185 185 w' w0.heap.size P v (mkPS ls m) ∧ Below w0.heap.size w0 w' ∧ Kept w w' P := by
  have hu185 := Try.underlying185
  obtain ⟨A, c, rfl⟩ := Kd.S_slice ho
  have HX : Aside0 (ls.length ≤ 9223372036854775807) := ⟨(Kd.S_reads' ho).2.2.2.1⟩
  have HS0 := Aside0.mk ho
  have HB0 := Aside0.mk hB
  have HM0 := Aside0.mk h0
  have HM1 := Aside0.mk h1
  clear ho hB h0 h1
  go_enter Try.func94, Try.ntmps94
  go_wp2_with fail
  go_loopg [1, 5] ls.length (fun gk v1 v5 w' => ∃ x : Int, v1 = .int .i64 (m + totP (ls.take x.toNat)) ∧ v5 = .int .i64 x ∧ Aside0 (0 ≤ x ∧ (gk : Int) + x = (ls.length : Int)) ∧ Aside0 (Kd.S k185 185 w' w0.heap.size P (.slice A ls.length c) (mkPS (ls.take x.toNat) m ++ ls.drop x.toNat)) ∧ Aside0 (Below w0.heap.size w0 w') ∧ Aside0 (Kept w w' P))
  case atStart =>
    exact ⟨0, by simp [totP], rfl, ⟨by omega⟩, ⟨by simpa [mkPS] using HS0.out⟩, HB0, ⟨Kept.refl _ _⟩⟩
  case round =>
    clear HS0 HB0
    obtain ⟨x, rfl, rfl, HXK, HS, HB, HK⟩ := hrel
    cases gk with
    | zero =>
      have hx : x = (ls.length : Int) := by have := HXK.out; omega
      subst hx
      have c4b0 : decide ((ls.length : Int) < (ls.length : Int)) = false := decide_eq_false (by omega)
      have HS2 := HS.out
      rw [Int.toNat_natCast, List.take_length, List.drop_length, List.append_nil] at HS2
      go_wp2_with fail
      go_ret
      exact ⟨by first | rfl | (rw [Int.toNat_natCast, List.take_length]; rfl), HS2, HB.out, HK.out⟩
    | succ gk =>
      have p0 : 0 ≤ x := HXK.out.1
      have q0 : x < (ls.length : Int) := by have := HXK.out; omega
      have HP0 := Aside0.mk p0
      have HQ0 := Aside0.mk q0
      have hxl : x.toNat < ls.length := by omega
      have hml : (mkPS (ls.take x.toNat) m).length = x.toNat := by rw [mkPS_length, List.length_take]; omega
      have hpos : 0 < (mkPS (ls.take x.toNat) m ++ ls.drop x.toNat).length := by simp [mkPS_length]; omega
      obtain ⟨g, cap, ev, _⟩ := Kd.S_form HS.out hpos
      injection ev with ev1 ev2 ev3
      subst ev1
      subst ev3
      have HPG : Aside0 (P g) := ⟨(Kd.S_R HS.out).1 g (by simp [Value.ownBlock])⟩
      have HGW : Aside0 (w0.heap.size ≤ g) := ⟨Kd.S_base HS.out g (by simp [Value.ownBlock])⟩
      obtain ⟨oki, cc, _, hM, hcc, hoki, hH⟩ := Kd.S_lend HS.out z185 x p0 q0
      rw [cur_getD _ _ _ _ hml] at hM
      obtain ⟨vi, rfl, hRi⟩ := k185_openM hM
      have hcell0 := hcc 0 _ rfl
      have hfr0 : wr.frozen? ⟨g, x.toNat * 2, none⟩ = false := by
        obtain ⟨_, _, _, _, hfr⟩ := Kd.R_elem (Kd.S_R HS.out) z185 x p0 q0
        have := hfr 0
        simpa [show k185.sz = 2 from rfl] using this
      rw [show k185.sz = 2 from rfl, Nat.add_zero] at hcell0
      clear hcc
      have htot : totP (ls.take (x.toNat + 1)) = totP (ls.take x.toNat) + (1 + (ls.getD x.toNat z185).f1.length) := by rw [take_snoc_getD ls z185 _ hxl, totP_snoc]
      have hle := totP_take_le ls (x.toNat + 1)
      have hsn := take_snoc_getD ls z185 _ hxl
      generalize ls.getD x.toNat z185 = li at hRi htot hsn hcell0 hM hH
      obtain ⟨k, hf⟩ := markB_at (l := li.f1) (m := m + totP (ls.take x.toNat) + 1) (by have := HM0.out; omega) (by have := HM1.out; omega)
      have hcs := cur_set (mkPS (ls.take x.toNat) m) ls (⟨m + totP (ls.take x.toNat), li.f1⟩ : S185) x.toNat hml hxl
      have HWR : Aside0 (wrap64 (m + totP (ls.take x.toNat) + 1) = m + totP (ls.take x.toNat) + 1) := ⟨by have := HM0.out; have := HM1.out; unfold wrap64; omega⟩
      have HSN := Aside0.mk hsn
      have HF := Aside0.mk hf
      have HRI := Aside0.mk hRi
      have HH := Aside0.mk hH
      have HOK := Aside0.mk hoki
      have HTOT := Aside0.mk htot
      have HML := Aside0.mk hml
      have HXL := Aside0.mk hxl
      have HCS := Aside0.mk hcs
      clear hcs hsn hf hRi hH hoki htot hle hml hxl hpos ev2 HS hM
      have c4b0 : decide (x < (ls.length : Int)) = true := decide_eq_true q0
      have c4b1 : decide (0 ≤ x) = true := decide_eq_true p0
      replace p0 := eq_true p0
      replace q0 := eq_true q0
      generalize hmm : m + (totP (ls.take x.toNat) : Int) = mm at HF HWR HCS ⊢
      have HMM := Aside0.mk hmm
      clear hmm
      go_wp2_with (first | ((with_reducible refine gate_ (.store 3 (.tmp 16) (.tmp 14)) rfl ?_); refine Kd.H_store k185 w0.heap.size rfl rfl 3 (.tmp 16) (.tmp 14) rfl 185 x 0 (mkPS (ls.take x.toNat) m ++ ls.drop x.toNat) (⟨mm, li.f1⟩ : S185) (.int .i64 mm) [.int .i64 mm] [.int .i64 li.f0, vi] P oki oki rfl rfl rfl rfl (by kernel_rfl) (by simp [Value.oneCell']) HH.out HP0.out HQ0.out (Nat.le_of_ble_eq_true rfl) (k185_mkM _ _ _ _ HRI.out) (fun _ h => h) HB.out ?_; intro w1 hs1 hb1 hg1; rw [HCS.out] at hs1; have HS1 := Aside0.mk hs1; have HB1 := Aside0.mk hb1; have HK1 := Aside0.mk (keptTrans HK.out (Kept.of_grown hg1 (Kept.refl _ (fun k_ => k_ = g)) (fun k_ e_ => .inl (Option.some.inj e_).symm)) (fun k_ e_ => by rw [e_]; exact HPG.out)); clear hs1 hb1 hg1; obtain ⟨oki2, cc2, hcl2, hM2, hcc2, hoki2, hH2⟩ := Kd.S_lend HS1.out z185 x HP0.out HQ0.out; have hM3 := hM2; rw [show ((mkPS (ls.take x.toNat) m ++ [(⟨mm, li.f1⟩ : S185)]) ++ ls.drop (x.toNat + 1)).getD x.toNat z185 = ⟨mm, li.f1⟩ from by { rw [List.append_assoc, List.getD_eq_getElem?_getD, List.getElem?_append_right (Nat.le_of_eq HML.out), HML.out, Nat.sub_self]; rfl }] at hM3; obtain ⟨vj, ecc, hRj⟩ := k185_openM hM3; subst ecc; have hcell1 := hcc2 1 _ rfl; rw [show k185.sz = 2 from rfl] at hcell1; have HRJ := Aside0.mk hRj; have HH2 := Aside0.mk hH2; have HOK2 := Aside0.mk hoki2; clear hcl2 hM2 hcc2 hoki2 hH2 hM3 hRj))
      have hwr2 := HWR.out
      (try rw [hwr2])
      with_reducible refine (laws_markByteS.calls k (fun k_ => some k_ = vj.ownBlock) vj li.f1 (mm + 1) _ _ w0 _ HB1.out (Kd.R_tight rfl HRJ.out) HF.out).mono ?_
      rintro e w2 ⟨rfl, hy, hb, hkp⟩
      have HS2 := Kd.H_back (Kd.H_step HH2.out (fun k_ hk hn hlt => hkp.2 k_ hlt (fun e => hn (HRJ.out.1 k_ e.symm)))) (x' := (⟨mm, marks li.f1.length (mm + 1)⟩ : S185)) (k185_mkM _ _ _ _ (Kd.R_reok rfl hy (fun k_ e_ => HRJ.out.1 k_ e_))) (fun _ hk => hk)
      rw [List.append_assoc, List.set_append_right _ _ (Nat.le_of_eq HML.out), HML.out, Nat.sub_self, List.singleton_append, List.set_cons_zero] at HS2
      have HS3 := Aside0.mk HS2
      have HB3 := Aside0.mk hb
      have HK3 := Aside0.mk (keptTrans HK1.out hkp (fun k_ hk => (HOK2.out k_ (HRJ.out.1 k_ hk.symm)).1))
      clear hy hb hkp HS2 HB HK HH HRI HRJ HH2 HB1 HK1 HS1
      go_wp2_with fail
      go_roundg gk
      case measure => omega
      case rel =>
        have hw1 : wrap64 (x + 1) = x + 1 := by have := HP0.out; have := HQ0.out; have := HX.out; unfold wrap64; omega
        have ht1 : (x + 1).toNat = x.toNat + 1 := by have := HP0.out; omega
        refine ⟨x + 1, ?_, by first | rfl | (rw [hw1]), ⟨by have := HXK.out; omega⟩, ⟨?_⟩, HB3, HK3⟩
        · rw [ht1, HTOT.out, ← HMM.out]
          congr 1
          omega
        · rw [ht1, HSN.out, mkPS_snoc, HMM.out, List.append_assoc]
          exact HS3.out
end Go.Proofs.Ytlopmffdebhpfaa.G

/-! ## G85 -/
namespace Go.Proofs.Ytlopmffdebhpfaa.G
open Go.RowKit Go.Proofs.YtlopmffdebhpfaaW.PrintWords Go.Proofs.YtlopmffdebhpfaaW.PrintLast Go.Proofs.YtlopmffdebhpfaaW.PrintMore
attribute [local go_sem] max2_int min2_int max_two min_two max_three min_three max_four min_four
set_option linter.unusedVariables false
set_option linter.unusedSimpArgs false

/-! ### laws_toByteSS: function 85 -/
end Go.Proofs.Ytlopmffdebhpfaa.G

/-! ## G138 -/
namespace Go.Proofs.Ytlopmffdebhpfaa.G
open Go.RowKit Go.Proofs.YtlopmffdebhpfaaW.PrintWords Go.Proofs.YtlopmffdebhpfaaW.PrintLast Go.Proofs.YtlopmffdebhpfaaW.PrintMore
attribute [local go_sem] max2_int min2_int max_two min_two max_three min_three max_four min_four
set_option linter.unusedVariables false
set_option linter.unusedSimpArgs false

/-! ### laws_toPend: function 138 -/
end Go.Proofs.Ytlopmffdebhpfaa.G

/-! ## G86 -/
namespace Go.Proofs.Ytlopmffdebhpfaa.G
open Go.RowKit Go.Proofs.YtlopmffdebhpfaaW.PrintWords Go.Proofs.YtlopmffdebhpfaaW.PrintLast Go.Proofs.YtlopmffdebhpfaaW.PrintMore
attribute [local go_sem] max2_int min2_int max_two min_two max_three min_three max_four min_four
set_option linter.unusedVariables false
set_option linter.unusedSimpArgs false

/-! ### laws_toPendS: function 86 -/
end Go.Proofs.Ytlopmffdebhpfaa.G

/-! ## G26 -/
namespace Go.Proofs.Ytlopmffdebhpfaa.G
open Go.RowKit Go.Proofs.YtlopmffdebhpfaaW.PrintWords Go.Proofs.YtlopmffdebhpfaaW.PrintLast Go.Proofs.YtlopmffdebhpfaaW.PrintMore
attribute [local go_sem] max2_int min2_int max_two min_two max_three min_three max_four min_four
set_option linter.unusedVariables false
set_option linter.unusedSimpArgs false

/-! ### laws_toDisk: function 26 -/
end Go.Proofs.Ytlopmffdebhpfaa.G

/-! ## ToDisk -/
namespace Go.Proofs.Ytlopmffdebhpfaa.G
open Go.RowKit Go.Proofs.YtlopmffdebhpfaaW.PrintWords Go.Proofs.YtlopmffdebhpfaaW.PrintLast Go.Proofs.YtlopmffdebhpfaaW.PrintMore
set_option linter.unusedVariables false
set_option linter.unusedSimpArgs false

/-- A disk of the call's own: its sectors' rows and its pending writes' rows lie in blocks of their own, apart. -/
def IsDisk (w : World) (base : Nat) (P Q : Nat → Prop) (v0 v1 : Value) (r1 : List (List Int)) (r2 : List S185) : Prop :=
  (∀ k, P k → ¬ Q k) ∧ Kd.S (Kd.slice 5 (Kd.int .u8)) 22 w base P v0 r1 ∧ Kd.S k185 185 w base Q v1 r2
theorem IsDisk_below {w w1 : World} {base : Nat} {P Q : Nat → Prop} {v0 v1 : Value} {r1 : List (List Int)} {r2 : List S185} (h : IsDisk w base P Q v0 v1 r1 r2) (hb : Below w.heap.size w w1) : IsDisk w1 base P Q v0 v1 r1 r2 := ⟨h.1, Kd.S_below h.2.1 hb, Kd.S_below h.2.2 hb⟩
end Go.Proofs.Ytlopmffdebhpfaa.G

/-! ## MarkD -/
namespace Go.Proofs.Ytlopmffdebhpfaa.G
open Go.RowKit Go.Proofs.YtlopmffdebhpfaaW.PrintWords Go.Proofs.YtlopmffdebhpfaaW.PrintLast Go.Proofs.YtlopmffdebhpfaaW.PrintMore
set_option linter.unusedVariables false
set_option linter.unusedSimpArgs false

set_option maxHeartbeats 4000000 in
set_option maxRecDepth 100000 in
theorem laws_markDisk.calls (P Q : Nat → Prop) (v0 v1 : Value) (r1 : List (List Int)) (r2 : List S185) (m : Int) (w0 w : World) (hB : Below w0.heap.size w0 w) (hD : IsDisk w w0.heap.size P Q v0 v1 r1 r2) (h0 : 0 ≤ m) (h1 : m + totL r1 + totP r2 ≤ 4611686018427387904) :
    Calls Try.prog 29 #[.agg #[v0, v1], .int .i64 m] w fun e w' => e = .returned (.int .i64 (m + totL r1 + totP r2)) ∧ IsDisk w' w0.heap.size P Q v0 v1 (mkSS r1 m) (mkPS r2 (m + totL r1)) ∧ Below w0.heap.size w0 w' ∧ Kept w w' (fun q => P q ∨ Q q) := by
  have hu44 := Try.underlying44
  obtain ⟨hap, hs0, hs1⟩ := hD
  obtain ⟨A0, c0, rfl⟩ := Kd.S_slice hs0
  obtain ⟨A1, c1, rfl⟩ := Kd.S_slice hs1
  have HP := Aside0.mk (Kd.S_mono (Kd.S_bound hs0) (ok' := fun q => P q ∧ q < w.heap.size) (fun q hq => ⟨hq.1, hq.2.2.1⟩))
  have HQ := Aside0.mk (Kd.S_mono (Kd.S_bound hs1) (ok' := fun q => Q q ∧ q < w.heap.size) (fun q hq => ⟨hq.1, hq.2.2.1⟩))
  have HAP := Aside0.mk hap
  have HB := Aside0.mk hB
  have HM0 := Aside0.mk h0
  have HM1 := Aside0.mk h1
  clear hap hs0 hs1 hB h0 h1
  go_enter Try.func29, Try.ntmps29
  go_wp2_with (first | ((with_reducible refine gate_dst (N := 2) rfl ?_); refine box_event ?hg (N := 2) ?hd (cs := #[.slice A0 r1.length c0, .slice A1 r2.length c1]) (t := 44) ?hr ?_; (case hd => rfl); (case hg => rfl); (case hr => first | (go_simp; done) | (go_simp; rfl)); intro gp hgr w1 hbox hbel; have BP := Aside0.mk hbox; have GP := Aside0.mk hgr; have HL := Aside0.mk hbel; have HB1 := Aside0.mk (below_step HB.out hbel); have hp0 : w1.cell? ⟨gp, 0, none⟩ = some (.slice A0 r1.length c0) := (blk_cell hbox 0).trans rfl; have hp1 : w1.cell? ⟨gp, 1, none⟩ = some (.slice A1 r2.length c1) := (blk_cell hbox 1).trans rfl; clear hbox hbel hgr))
  refine (laws_markByteSS.calls (fun q => P q ∧ q < w.heap.size) (.slice A0 r1.length c0) r1 m w0 _ HB1.out (Kd.S_below HP.out HL.out) HM0.out (by have := HM0.out; have := HM1.out; omega)).mono ?_
  rintro e w2 ⟨rfl, hs, hb, hk⟩
  have HP2 := Aside0.mk hs
  have HB2 := Aside0.mk hb
  have BP2 := Aside0.mk (show w2.heap[gp]? = some (.cells #[.slice A0 r1.length c0, .slice A1 r2.length c1] 44 (0, 0)) from (hk.2 gp (blk_lt BP.out) (fun h => by have := h.2; have := GP.out; omega)).trans BP.out)
  have HQ2 := Aside0.mk (Kd.S_step (Kd.S_below HQ.out HL.out) (w1 := w2) (fun q hq hlt => hk.2 q hlt (fun h => HAP.out q h.1 hq.1)))
  have HK2 := Aside0.mk (show Kept w w2 (fun q => P q ∨ Q q) from keptTrans (Kept.of_below HL.out (fun q => P q ∨ Q q)) (hk.mono (fun q h => .inl h.1)) (fun q h => h))
  clear hs hb hk HB1 BP HL HP HQ hp0 hp1
  have hp1 : w2.cell? ⟨gp, 1, none⟩ = some (.slice A1 r2.length c1) := (blk_cell BP2.out 1).trans rfl
  go_wp2_with fail
  refine (laws_markPendS.calls (fun q => Q q ∧ q < w.heap.size) (.slice A1 r2.length c1) r2 (m + totL r1) w0 _ HB2.out HQ2.out (by have := HM0.out; omega) (by have := HM1.out; omega)).mono ?_
  rintro e w3 ⟨rfl, hs, hb, hk⟩
  have HQ3 := Aside0.mk (Kd.S_mono hs (ok' := Q) (fun q hq => hq.1))
  have HP3 := Aside0.mk (Kd.S_mono (Kd.S_step HP2.out (w1 := w3) (fun q hq hlt => hk.2 q hlt (fun h => HAP.out q hq.1 h.1))) (ok' := P) (fun q hq => hq.1))
  have HB3 := Aside0.mk hb
  have HK3 := Aside0.mk (keptTrans HK2.out hk (fun q h => .inr h.1))
  clear hs hb hk
  go_wp2_with fail
  go_ret
  exact ⟨rfl, ⟨HAP.out, HP3.out, HQ3.out⟩, HB3.out, HK3.out⟩
end Go.Proofs.Ytlopmffdebhpfaa.G

/-! ## LMap -/
namespace Go.Proofs.Ytlopmffdebhpfaa.G
open Go.RowKit Go.Maps Go.Proofs.YtlopmffdebhpfaaW.PrintWords Go.Proofs.YtlopmffdebhpfaaW.PrintLast Go.Proofs.YtlopmffdebhpfaaW.PrintMore
/-- Block b is a map of at most n entries that reads as m. -/
def LMap (w : World) (b n : Nat) (m : Int → Option Int) : Prop :=
  ∃ D : DataW Unit, w.ownsMap Try.prog 3 (plainElem Try.prog 3) b n D ∧ Maps.IsMap D ∧ ∀ x, Maps.has D (.int .i64 x) = (m x).isSome ∧ ∀ c, m x = some c → D.atKey (.int .i64 x) (.lit (.int .i64 0)) = .lit (.int .i64 c)
theorem lawInt : Keyed Try.prog 3 := int_keyed Try.underlying3
theorem LMap_lt {w : World} {b n : Nat} {m : Int → Option Int} (h : LMap w b n m) : b < w.heap.size := by
  obtain ⟨D, h, _⟩ := h
  exact h.lt
theorem LMap_made (w : World) : LMap (w.alloc (.map #[] 0)) w.heap.size 0 (fun _ => none) :=
  ⟨.map [], World.ownsMap_made _ _ _ _, Maps.isMap_empty, fun x => ⟨rfl, fun c h => by cases h⟩⟩
theorem LMap_step {w w1 : World} {b n : Nat} {m : Int → Option Int} (h : LMap w b n m) (hb : w1.heap[b]? = w.heap[b]?) : LMap w1 b n m := by
  obtain ⟨D, ⟨es, clock, h1, h2⟩, h3⟩ := h
  exact ⟨D, ⟨es, clock, hb.trans h1, h2⟩, h3⟩
theorem LMap_put {w : World} {b n : Nat} {m : Int → Option Int} (h : LMap w b n m) (hn : n < maxLen) {x c : Int} (hx : (Lit.int .i64 x).wf = true) (hc : (Lit.int .i64 c).wf = true) :
    ∃ w1, (Instr.mapUpdate 157 (.map (some b)) (.int .i64 x) (.int .i64 c)).run Try.prog w = .ok () w1 ∧ LMap w1 b (n + 1) (fun y => if y = x then some c else m y) ∧ w.grownBy w1 (some b) := by
  obtain ⟨D, ho, hM, hD⟩ := h
  have hkey := keyOf_int_mk Try.underlying3 hx
  obtain ⟨w1, hrun, h1, h2⟩ := ho.update lawInt Try.underlying157 hn hkey (plainElem_int Try.underlying3 hc)
  refine ⟨w1, hrun, ⟨_, h1, hM.put _ _, fun y => ?_⟩, h2⟩
  by_cases hy : y = x
  · subst hy
    have hk : WideAt.IsKeyLit (.int .i64 y) := by first | trivial | exact rfl | simp [WideAt.IsKeyLit]
    dsimp only
    rw [if_pos rfl]
    refine ⟨Maps.has_put_same hM hk _, fun c' hc' => ?_⟩
    obtain rfl := Option.some.inj hc'
    exact Maps.atKey_put_same hM hk _ _
  · have hne : (Lit.int .i64 y) ≠ (Lit.int .i64 x) := fun e => hy (by injection e)
    dsimp only
    rw [if_neg hy, Maps.has_put_other hne, Maps.atKey_put_other hne]
    exact hD y
theorem LMap_clear {w : World} {b n : Nat} {m : Int → Option Int} (h : LMap w b n m) (ty : TypeId) :
    ∃ w1, (Builtin.clear_ #[157] ty #[.map (some b)]).run Try.prog w = .ok (.tuple #[]) w1 ∧ LMap w1 b 0 (fun _ => none) ∧ w.grownBy w1 (some b) := by
  obtain ⟨D, ⟨es, clock, h1, _⟩, _⟩ := h
  refine ⟨{ w with heap := w.heap.setIfInBounds b (.map #[] clock) }, ?_, ⟨.map [], ⟨#[], clock, ?_, ⟨by simp, MapKept.stamped_empty clock, by simp⟩, Nat.le_refl _, rfl⟩, Maps.isMap_empty, fun x => ⟨rfl, fun c h => by cases h⟩⟩, ⟨rfl, rfl, rfl, by simp, fun i _ hi => ?_⟩⟩
  · have hg := MapKept.run_getObj_map (P := Try.prog) h1
    have hs : (setObj b (.map #[] clock)).run Try.prog w = .ok () { w with heap := w.heap.setIfInBounds b (.map #[] clock) } := by simp [setObj, Sem.run, h1]
    simp [Builtin.clear_, run_underlying Try.underlying157, hg, hs]
  · have hlt := (Array.getElem?_eq_some_iff.1 h1).1
    simp [hlt]
  · have hne : b ≠ i := fun e => hi (by rw [e])
    simp [Array.getElem?_setIfInBounds_ne hne]
end Go.Proofs.Ytlopmffdebhpfaa.G

/-! ## LSet -/
namespace Go.Proofs.Ytlopmffdebhpfaa.G
open Go.RowKit Go.Maps Go.Proofs.YtlopmffdebhpfaaW.PrintWords Go.Proofs.YtlopmffdebhpfaaW.PrintLast Go.Proofs.YtlopmffdebhpfaaW.PrintMore
set_option linter.unusedVariables false
/-- Block b is a map of at most n entries whose members are l. -/
def LSet (w : World) (b n : Nat) (l : List Int) : Prop :=
  ∃ D : DataW Unit, w.ownsMap Try.prog 3 (plainElem Try.prog 4) b n D ∧ Maps.IsMap D ∧ ∀ x, D.atKey (.int .i64 x) (.lit (.bool false)) = .lit (.bool (decide (x ∈ l)))
section
variable {P : Program} {ops : Array Oper} {rest : List Oper} {o : Oper} {a : Act} {Q : Exit → Act → World → Prop}
end
section
variable {α : Type} {d : Kd α} {e base g b n : Nat} {w w1 : World} {ok : Nat → Prop} {v : Value} {xs : List α} {l : List Int}
/-- A block of another type is written. -/
theorem R_off (h : d.R e w base ok v xs) {t : Nat} {cells : Array Value} (hb : w.heap[g]? = some (.cells cells t (0, 0))) (ht : ∀ q, q ∈ e :: d.E → q ≠ t) (hg : w.grownBy w1 (some g)) : d.R e w1 base ok v xs :=
  Kd.R_mono (Kd.R_grown (Kd.R_types h hb ht) hg (fun q hq he => hq.2 (Option.some.inj he))) (fun _ hq => hq.1)
/-- The set is written. -/
theorem R_set (h : d.R e w base ok v xs) (hs : LSet w b n l) (hg : w.grownBy w1 (some b)) : d.R e w1 base ok v xs :=
  Kd.R_mono (Kd.R_grown (Kd.R_bound h) hg (fun _ hq he => by
    obtain ⟨_, _, _, _, _, cells, hc⟩ := hq
    obtain ⟨D, ⟨es, clock, h1, _⟩, _⟩ := hs
    rw [Option.some.inj he, h1] at hc
    cases hc)) (fun _ hq => hq.1)
end
end Go.Proofs.Ytlopmffdebhpfaa.G

/-! ## LawL -/
namespace Go.Proofs.Ytlopmffdebhpfaa.G
open Go.RowKit Go.Proofs.YtlopmffdebhpfaaW.PrintWords Go.Proofs.YtlopmffdebhpfaaW.PrintLast Go.Proofs.YtlopmffdebhpfaaW.PrintMore
set_option linter.unusedVariables false
/-- The blocks of S are of the types T. -/
def Ty (w : World) (S : Nat → Prop) (T : List Nat) : Prop := ∀ q, S q → ∃ t, t ∈ T ∧ ∃ cells, w.heap[q]? = some (.cells cells t (0, 0))
section
variable {w w1 : World} {base g g' t t' : Nat} {cs cs' : Array Value} {P Q S : Nat → Prop} {T : List Nat} {v0 v1 : Value} {r1 : List (List Int)} {r2 : List S185}
theorem blk_type (h : w.heap[g]? = some (.cells cs t (0, 0))) (h' : w.heap[g]? = some (.cells cs' t' (0, 0))) : t = t' := by
  rw [h] at h'
  injection h' with h'
  injection h' with _ h'
theorem blk_off (h : w.heap[g]? = some (.cells cs t (0, 0))) (hb : w.heap[g']? = some (.cells cs' t' (0, 0))) (ht : t ≠ t') (hg : w.grownBy w1 (some g')) : w1.heap[g]? = some (.cells cs t (0, 0)) :=
  blk_grown h hg (fun e => ht (by rw [← Option.some.inj e] at hb; exact blk_type h hb))
theorem D_off (h : IsDisk w base P Q v0 v1 r1 r2) (hb : w.heap[g]? = some (.cells cs t (0, 0))) (ht : (∀ q, q ∈ [22, 5] → q ≠ t) ∧ ∀ q, q ∈ [185, 5] → q ≠ t) (hg : w.grownBy w1 (some g)) : IsDisk w1 base P Q v0 v1 r1 r2 :=
  ⟨h.1, Kd.S_mono (Kd.S_grown (Kd.S_types h.2.1 hb ht.1) hg (fun q hq e => hq.2 (Option.some.inj e))) (fun _ hq => hq.1), Kd.S_mono (Kd.S_grown (Kd.S_types h.2.2 hb ht.2) hg (fun q hq e => hq.2 (Option.some.inj e))) (fun _ hq => hq.1)⟩
theorem D_lower {base' : Nat} (h : IsDisk w base P Q v0 v1 r1 r2) (hb : base' ≤ base) : IsDisk w base' P Q v0 v1 r1 r2 := ⟨h.1, Kd.S_lower h.2.1 hb, Kd.S_lower h.2.2 hb⟩
/-- A disk's sets of blocks, as small as its types tell. -/
theorem D_tight (h : IsDisk w base P Q v0 v1 r1 r2) : ∃ P' Q', IsDisk w base P' Q' v0 v1 r1 r2 ∧ Ty w (fun q => P' q ∨ Q' q) [22, 5, 185] ∧ ∀ q, P' q ∨ Q' q → (P q ∨ Q q) ∧ base ≤ q ∧ q < w.heap.size := by
  refine ⟨_, _, ⟨fun q h1 h2 => h.1 q h1.1 h2.1, Kd.S_bound h.2.1, Kd.S_bound h.2.2⟩, fun q hq => ?_, fun q hq => ?_⟩
  · rcases hq with ⟨_, _, _, t, ht, hc⟩ | ⟨_, _, _, t, ht, hc⟩
    · exact ⟨t, by simp [Kd.slice, Kd.int, Kd.scalar] at ht; simp; omega, hc⟩
    · exact ⟨t, by simp [k185, Kd.iso, Kd.pair, Kd.slice, Kd.int, Kd.scalar] at ht; simp; omega, hc⟩
  · rcases hq with ⟨h1, h2, h3, _⟩ | ⟨h1, h2, h3, _⟩
    · exact ⟨.inl h1, h2, h3⟩
    · exact ⟨.inr h1, h2, h3⟩
theorem blk_keptT (h : w.heap[g]? = some (.cells cs t (0, 0))) (hk : Kept w w1 S) (hT : Ty w S T) (ht : t ∉ T) : w1.heap[g]? = some (.cells cs t (0, 0)) :=
  blk_kept h hk (fun hs => by
    obtain ⟨t', h1, cells, hc⟩ := hT g hs
    exact ht (by rw [blk_type h hc]; exact h1))
end
end Go.Proofs.Ytlopmffdebhpfaa.G
