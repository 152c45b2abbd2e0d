/- Texts of this proof, joined in their build order: G0 G78 G136 Cv G77 G67 G68 G69 G21 G14 Base Blk G135 Shelf Lib1 Head PageB G130 G79 G131 Parse Err Page Enc G15 G17 G18 G19 Dec Mark G85 G138 G86 G26 ToDisk MarkD LMap LSet LawL DiskL Mu Dev DoL Sec Lib2 Do. -/
import Derived.Test.YtlopmffdebhpfaaProg
import Derived.Below
import Derived.Deep.Draws
import Derived.Deep.AppendLies
import Derived.Maps.AppendAt
import Derived.OwnWalk
import Derived.Laws.BytesArg
import Derived.Laws.MakeOwn
import Derived.Laws.OwnMore
import Derived.Deep.OwnRows
import Derived.Tactics
import Derived.Lib.ConvBytes
import Derived.Laws.Slices
import Derived.WalkKit
import Derived.KernelRfl
import Derived.RowKit3
import Derived.Deep.LoopGhost
import Derived.Deep.QuietTactic
import Derived.BigQuiet
import Derived.WideLaws
import Derived.Deep.DeepCutAuto
import Derived.Deep.CutBlock
import Derived.Deep.RegionHeld3
import Derived.Laws.Rows
import Derived.Lib.AppendStr
import Derived.ArgAppend
import Derived.Laws.IdiomCopy
import Derived.OrdersHeld
import Derived.Laws.BitsLemmas
import Derived.RowKit
import Derived.Test.YtlopmffdebhpfaaK8WWords
import Derived.Test.YtlopmffdebhpfaaK8WLast
import Derived.Test.YtlopmffdebhpfaaK8WTab
import Derived.Test.YtlopmffdebhpfaaK8WFour
import Derived.Test.YtlopmffdebhpfaaK8WQPut
import Derived.Test.YtlopmffdebhpfaaK8WApart
import Derived.Test.YtlopmffdebhpfaaK8WArr
import Derived.Test.YtlopmffdebhpfaaK8WZeros
import Derived.Test.YtlopmffdebhpfaaK8WFoot
import Derived.Test.YtlopmffdebhpfaaK8WKept
import Derived.Test.YtlopmffdebhpfaaK8WShare
import Derived.Test.YtlopmffdebhpfaaK8WN
import Derived.Test.YtlopmffdebhpfaaK8WFootNe
import Derived.Test.YtlopmffdebhpfaaK8WAt
import Derived.Test.YtlopmffdebhpfaaK8WEqStruct
import Derived.Test.YtlopmffdebhpfaaK8WRepsOne
import Derived.Test.YtlopmffdebhpfaaK8WInv
import Derived.Test.YtlopmffdebhpfaaK8WInvWords
import Derived.Test.YtlopmffdebhpfaaK8WGuard
import Derived.Test.YtlopmffdebhpfaaK8WNEv
import Derived.Test.YtlopmffdebhpfaaK8WMore
import Derived.Shelf.Bytes.SlSearch0
import Derived.Ground.SlbCloneProg
import Derived.Shelf.Bytes.SlClone
import Derived.Ground.SlbNamesProg
import Derived.Shelf.Bytes.SlJoin
import Derived.Shelf.Bytes.SlEqualAll
import Derived.Shelf.Bytes.Small
import Derived.LaidEql
import Derived.Stop.Asserts
import Derived.RowKitTokens
import Derived.Maps.OwnSet
import Derived.Conc.MuLone
import Derived.WalkSpells
import Derived.Lib.SliceRun
/-! ## G0 -/
namespace Go.Proofs.Ytlopmffdebhpfaa.G
open Go.RowKit Go.Proofs.YtlopmffdebhpfaaW.PrintWords Go.Proofs.YtlopmffdebhpfaaW.PrintLast Go.Proofs.YtlopmffdebhpfaaW.PrintMore
attribute [local go_sem] max2_int min2_int max_two min_two max_three min_three max_four min_four
set_option linter.unusedVariables false
set_option linter.unusedSimpArgs false



def errW : Option Int → Value
  | none => .nilIface
  | some c => .iface 0 (.int .i64 c)
theorem errW_none : errW none = .nilIface := rfl
theorem errW_some (c : Int) : errW (some c) = .iface 0 (.int .i64 c) := rfl

theorem info5 : (Try.prog.info? 5).map (fun i => (i.zero, i.size, i.bytes)) = some (some (.int .u8 0), 1, 1) := by kernel_rfl
theorem info22 : (Try.prog.info? 22).map (fun i => (i.zero, i.size, i.bytes)) = some (some (.slice none 0 0), 1, 24) := by kernel_rfl
theorem info63 : (Try.prog.info? 63).map (fun i => (i.zero, i.size, i.bytes)) = some (some (.agg #[(.int .i64 0), (.int .i64 0), (.slice none 0 0)]), 3, 40) := by kernel_rfl
theorem info185 : (Try.prog.info? 185).map (fun i => (i.zero, i.size, i.bytes)) = some (some (.agg #[(.int .i64 0), (.slice none 0 0)]), 2, 32) := by kernel_rfl
-- the values' own types
def rd_L2 (xs : List (List Int)) (i : Int) : (List Int) := xs.getD i.toNat ([] : List Int)
theorem at_L2 {w : World} {A : Option Addr} {n : Nat} {xs : List (List Int)} (h : Kd.C (Kd.slice 5 (Kd.int .u8)) w A n xs) (i : Int) (h0 : 0 ≤ i) (h1 : i < n) : ∃ ad A0 c0, A = some ad ∧ w.cell? (ad.add i.toNat) = some (.slice A0 (rd_L2 xs i).length c0) ∧ (rd_L2 xs i).length ≤ c0 ∧ (Kd.int .u8).C w A0 (rd_L2 xs i).length (rd_L2 xs i) := by
  obtain ⟨ad, c, e, _, hK, hc0⟩ := Kd.C_get h ([] : List Int) i h0 h1
  have hc : ∀ j u, c[j]? = some u → w.cell? (ad.add (i.toNat * 1 + j)) = some u := hc0
  obtain ⟨A0, c0, rfl, l0, g0⟩ := hK
  exact ⟨ad, A0, c0, e, by have hq := hc 0 _ rfl; rwa [Nat.mul_one, Nat.add_zero] at hq, l0, g0⟩

/-! #### struct type 184 -/
structure S184 where
  f0 : Int
  f1 : (List Int)
def z184 : S184 := ⟨(0 : Int), ([] : List Int)⟩
def k184 : Kd S184 := Kd.iso (Kd.pair (Kd.int .i64) (Kd.slice 5 (Kd.int .u8))) (fun x : S184 => (x.f0, x.f1))
theorem k184_open {w : World} {x : S184} {cs : List Value} (h : k184.K w x cs) : ∃ A1 c1, cs = [.int .i64 x.f0, .slice A1 x.f1.length c1] ∧ x.f1.length ≤ c1 ∧ (Kd.int .u8).C w A1 x.f1.length x.f1 := by
  obtain ⟨_, _, rfl, rfl, ⟨A1, c1, rfl, l1, g1⟩⟩ := h
  exact ⟨A1, c1, rfl, l1, g1⟩
theorem k184_mk (w : World) (x : S184) {A1 : Option Addr} {c1 : Nat} (l1 : x.f1.length ≤ c1) (g1 : (Kd.int .u8).C w A1 x.f1.length x.f1) : k184.K w x [.int .i64 x.f0, .slice A1 x.f1.length c1] := ⟨[.int .i64 x.f0], [.slice A1 x.f1.length c1], rfl, rfl, ⟨A1, c1, rfl, l1, g1⟩⟩
def rd_T184 (xs : List S184) (i : Int) : S184 := xs.getD i.toNat z184
theorem at_T184 {w : World} {A : Option Addr} {n : Nat} {xs : List S184} (h : Kd.C k184 w A n xs) (i : Int) (h0 : 0 ≤ i) (h1 : i < n) : ∃ ad A1 c1, A = some ad ∧ w.cell? (ad.add (i.toNat * 2)) = some (.int .i64 (rd_T184 xs i).f0) ∧ w.cell? ⟨(ad.add (i.toNat * 2)).block, (ad.add (i.toNat * 2)).off + 1, none⟩ = some (.slice A1 (rd_T184 xs i).f1.length c1) ∧ (rd_T184 xs i).f1.length ≤ c1 ∧ (Kd.int .u8).C w A1 (rd_T184 xs i).f1.length (rd_T184 xs i).f1 := by
  obtain ⟨ad, c, e, _, hK, hc0⟩ := Kd.C_get h z184 i h0 h1
  have hc : ∀ j u, c[j]? = some u → w.cell? (ad.add (i.toNat * 2 + j)) = some u := hc0
  obtain ⟨A1, c1, rfl, l1, g1⟩ := k184_open hK
  exact ⟨ad, A1, c1, e, hc 0 _ rfl, by rw [← add_field _ _ 1 (by omega)]; exact hc 1 _ rfl, l1, g1⟩

/-! #### struct type 185 -/
structure S185 where
  f0 : Int
  f1 : (List Int)
def z185 : S185 := ⟨(0 : Int), ([] : List Int)⟩
def k185 : Kd S185 := Kd.iso (Kd.pair (Kd.int .i64) (Kd.slice 5 (Kd.int .u8))) (fun x : S185 => (x.f0, x.f1))
theorem k185_open {w : World} {x : S185} {cs : List Value} (h : k185.K w x cs) : ∃ A1 c1, cs = [.int .i64 x.f0, .slice A1 x.f1.length c1] ∧ x.f1.length ≤ c1 ∧ (Kd.int .u8).C w A1 x.f1.length x.f1 := by
  obtain ⟨_, _, rfl, rfl, ⟨A1, c1, rfl, l1, g1⟩⟩ := h
  exact ⟨A1, c1, rfl, l1, g1⟩
theorem k185_openM {w : World} {base : Nat} {ok : Nat → Prop} {x : S185} {cs : List Value} (h : k185.M w base ok x cs) : ∃ v1, cs = [.int .i64 x.f0, v1] ∧ (Kd.int .u8).R 5 w base ok v1 x.f1 := by
  obtain ⟨_, _, rfl, rfl, ⟨v1, rfl, g1⟩⟩ := h
  exact ⟨v1, rfl, g1⟩
theorem k185_mkM (w : World) (base : Nat) (ok : Nat → Prop) (x : S185) {v1 : Value} (g1 : (Kd.int .u8).R 5 w base ok v1 x.f1) : k185.M w base ok x [.int .i64 x.f0, v1] := ⟨[.int .i64 x.f0], [v1], rfl, rfl, ⟨v1, rfl, g1⟩⟩
def rd_T185 (xs : List S185) (i : Int) : S185 := xs.getD i.toNat z185
theorem at_T185 {w : World} {A : Option Addr} {n : Nat} {xs : List S185} (h : Kd.C k185 w A n xs) (i : Int) (h0 : 0 ≤ i) (h1 : i < n) : ∃ ad A1 c1, A = some ad ∧ w.cell? (ad.add (i.toNat * 2)) = some (.int .i64 (rd_T185 xs i).f0) ∧ w.cell? ⟨(ad.add (i.toNat * 2)).block, (ad.add (i.toNat * 2)).off + 1, none⟩ = some (.slice A1 (rd_T185 xs i).f1.length c1) ∧ (rd_T185 xs i).f1.length ≤ c1 ∧ (Kd.int .u8).C w A1 (rd_T185 xs i).f1.length (rd_T185 xs i).f1 := by
  obtain ⟨ad, c, e, _, hK, hc0⟩ := Kd.C_get h z185 i h0 h1
  have hc : ∀ j u, c[j]? = some u → w.cell? (ad.add (i.toNat * 2 + j)) = some u := hc0
  obtain ⟨A1, c1, rfl, l1, g1⟩ := k185_open hK
  exact ⟨ad, A1, c1, e, hc 0 _ rfl, by rw [← add_field _ _ 1 (by omega)]; exact hc 1 _ rfl, l1, g1⟩

/-! #### struct type 59 -/
structure S59 where
  f0 : Int
  f1 : Int
  f2 : (List Int)
def z59 : S59 := ⟨(0 : Int), (0 : Int), ([] : List Int)⟩
def k59 : Kd S59 := Kd.iso (Kd.pair (Kd.int .i64) (Kd.pair (Kd.int .i64) (Kd.slice 5 (Kd.int .u8)))) (fun x : S59 => (x.f0, x.f1, x.f2))
theorem k59_open {w : World} {x : S59} {cs : List Value} (h : k59.K w x cs) : ∃ A2 c2, cs = [.int .i64 x.f0, .int .i64 x.f1, .slice A2 x.f2.length c2] ∧ x.f2.length ≤ c2 ∧ (Kd.int .u8).C w A2 x.f2.length x.f2 := by
  obtain ⟨_, _, rfl, rfl, ⟨_, _, rfl, rfl, ⟨A2, c2, rfl, l2, g2⟩⟩⟩ := h
  exact ⟨A2, c2, rfl, l2, g2⟩
theorem k59_mk (w : World) (x : S59) {A2 : Option Addr} {c2 : Nat} (l2 : x.f2.length ≤ c2) (g2 : (Kd.int .u8).C w A2 x.f2.length x.f2) : k59.K w x [.int .i64 x.f0, .int .i64 x.f1, .slice A2 x.f2.length c2] := ⟨[.int .i64 x.f0], [.int .i64 x.f1, .slice A2 x.f2.length c2], rfl, rfl, ⟨[.int .i64 x.f1], [.slice A2 x.f2.length c2], rfl, rfl, ⟨A2, c2, rfl, l2, g2⟩⟩⟩
def rd_T59 (xs : List S59) (i : Int) : S59 := xs.getD i.toNat z59
theorem at_T59 {w : World} {A : Option Addr} {n : Nat} {xs : List S59} (h : Kd.C k59 w A n xs) (i : Int) (h0 : 0 ≤ i) (h1 : i < n) : ∃ ad A2 c2, A = some ad ∧ w.cell? (ad.add (i.toNat * 3)) = some (.int .i64 (rd_T59 xs i).f0) ∧ w.cell? ⟨(ad.add (i.toNat * 3)).block, (ad.add (i.toNat * 3)).off + 1, none⟩ = some (.int .i64 (rd_T59 xs i).f1) ∧ w.cell? ⟨(ad.add (i.toNat * 3)).block, (ad.add (i.toNat * 3)).off + 2, none⟩ = some (.slice A2 (rd_T59 xs i).f2.length c2) ∧ (rd_T59 xs i).f2.length ≤ c2 ∧ (Kd.int .u8).C w A2 (rd_T59 xs i).f2.length (rd_T59 xs i).f2 := by
  obtain ⟨ad, c, e, _, hK, hc0⟩ := Kd.C_get h z59 i h0 h1
  have hc : ∀ j u, c[j]? = some u → w.cell? (ad.add (i.toNat * 3 + j)) = some u := hc0
  obtain ⟨A2, c2, rfl, l2, g2⟩ := k59_open hK
  exact ⟨ad, A2, c2, e, hc 0 _ rfl, by rw [← add_field _ _ 1 (by omega)]; exact hc 1 _ rfl, by rw [← add_field _ _ 2 (by omega)]; exact hc 2 _ rfl, l2, g2⟩

/-! #### struct type 63 -/
structure S63 where
  f0 : Int
  f1 : Int
  f2 : (List Int)
def z63 : S63 := ⟨(0 : Int), (0 : Int), ([] : List Int)⟩
def k63 : Kd S63 := Kd.iso (Kd.pair (Kd.int .i64) (Kd.pair (Kd.int .i64) (Kd.slice 5 (Kd.int .u8)))) (fun x : S63 => (x.f0, x.f1, x.f2))
theorem k63_open {w : World} {x : S63} {cs : List Value} (h : k63.K w x cs) : ∃ A2 c2, cs = [.int .i64 x.f0, .int .i64 x.f1, .slice A2 x.f2.length c2] ∧ x.f2.length ≤ c2 ∧ (Kd.int .u8).C w A2 x.f2.length x.f2 := by
  obtain ⟨_, _, rfl, rfl, ⟨_, _, rfl, rfl, ⟨A2, c2, rfl, l2, g2⟩⟩⟩ := h
  exact ⟨A2, c2, rfl, l2, g2⟩
theorem k63_openM {w : World} {base : Nat} {ok : Nat → Prop} {x : S63} {cs : List Value} (h : k63.M w base ok x cs) : ∃ v2, cs = [.int .i64 x.f0, .int .i64 x.f1, v2] ∧ (Kd.int .u8).R 5 w base ok v2 x.f2 := by
  obtain ⟨_, _, rfl, rfl, ⟨_, _, rfl, rfl, ⟨v2, rfl, g2⟩⟩⟩ := h
  exact ⟨v2, rfl, g2⟩
theorem k63_mkM (w : World) (base : Nat) (ok : Nat → Prop) (x : S63) {v2 : Value} (g2 : (Kd.int .u8).R 5 w base ok v2 x.f2) : k63.M w base ok x [.int .i64 x.f0, .int .i64 x.f1, v2] := ⟨[.int .i64 x.f0], [.int .i64 x.f1, v2], rfl, rfl, ⟨[.int .i64 x.f1], [v2], rfl, rfl, ⟨v2, rfl, g2⟩⟩⟩
def rd_T63 (xs : List S63) (i : Int) : S63 := xs.getD i.toNat z63
theorem at_T63 {w : World} {A : Option Addr} {n : Nat} {xs : List S63} (h : Kd.C k63 w A n xs) (i : Int) (h0 : 0 ≤ i) (h1 : i < n) : ∃ ad A2 c2, A = some ad ∧ w.cell? (ad.add (i.toNat * 3)) = some (.int .i64 (rd_T63 xs i).f0) ∧ w.cell? ⟨(ad.add (i.toNat * 3)).block, (ad.add (i.toNat * 3)).off + 1, none⟩ = some (.int .i64 (rd_T63 xs i).f1) ∧ w.cell? ⟨(ad.add (i.toNat * 3)).block, (ad.add (i.toNat * 3)).off + 2, none⟩ = some (.slice A2 (rd_T63 xs i).f2.length c2) ∧ (rd_T63 xs i).f2.length ≤ c2 ∧ (Kd.int .u8).C w A2 (rd_T63 xs i).f2.length (rd_T63 xs i).f2 := by
  obtain ⟨ad, c, e, _, hK, hc0⟩ := Kd.C_get h z63 i h0 h1
  have hc : ∀ j u, c[j]? = some u → w.cell? (ad.add (i.toNat * 3 + j)) = some u := hc0
  obtain ⟨A2, c2, rfl, l2, g2⟩ := k63_open hK
  exact ⟨ad, A2, c2, e, hc 0 _ rfl, by rw [← add_field _ _ 1 (by omega)]; exact hc 1 _ rfl, by rw [← add_field _ _ 2 (by omega)]; exact hc 2 _ rfl, l2, g2⟩

/-! #### struct type 100 -/
structure S100 where
  f0 : Int
  f1 : Int
  f2 : Int
/-! #### struct type 102 -/
structure S102 where
  f0 : S100
  f1 : (List Int)
end Go.Proofs.Ytlopmffdebhpfaa.G

/-! ## G78 -/
namespace Go.Proofs.Ytlopmffdebhpfaa.G
open Go.RowKit Go.Proofs.YtlopmffdebhpfaaW.PrintWords Go.Proofs.YtlopmffdebhpfaaW.PrintLast Go.Proofs.YtlopmffdebhpfaaW.PrintMore
attribute [local go_sem] max2_int min2_int max_two min_two max_three min_three max_four min_four
set_option linter.unusedVariables false
set_option linter.unusedSimpArgs false

/-! ### spec_Crc32: function 78 -/
mutual
def spec_Crc32.l0 : Nat → List Int → Int → Int → Option (Int)
  | 0, _, _, _ => none
  | k + 1, x0, x3, x4 => if x4 < (x0.length : Int) then (if 0 ≤ x4 then (spec_Crc32.l1 k x0 (Go.bits .xor .i64 x3 (wrap64 (rd x0 x4))) x4 0) else (none)) else (some (Go.bits .xor .i64 x3 4294967295))
def spec_Crc32.l1 : Nat → List Int → Int → Int → Int → Option (Int)
  | 0, _, _, _, _ => none
  | k + 1, x0, x3, x4, x5 => if x5 < 8 then (if (Int.tmod x3 2) = 1 then (spec_Crc32.l1 k x0 (Go.bits .xor .i64 (wrap64 (Int.tdiv x3 2)) 3988292384) x4 (wrap64 (x5 + 1))) else (spec_Crc32.l1 k x0 (wrap64 (Int.tdiv x3 2)) x4 (wrap64 (x5 + 1)))) else (spec_Crc32.l0 k x0 x3 (wrap64 (x4 + 1)))
end
end Go.Proofs.Ytlopmffdebhpfaa.G

/-! ## G136 -/
namespace Go.Proofs.Ytlopmffdebhpfaa.G
open Go.RowKit Go.Proofs.YtlopmffdebhpfaaW.PrintWords Go.Proofs.YtlopmffdebhpfaaW.PrintLast Go.Proofs.YtlopmffdebhpfaaW.PrintMore
attribute [local go_sem] max2_int min2_int max_two min_two max_three min_three max_four min_four
set_option linter.unusedVariables false
set_option linter.unusedSimpArgs false

/-! ### impl_Crc32: function 136 -/
mutual
def impl_Crc32.l0 : Nat → Int → List Int → Int → Int → Option (Int)
  | 0, _, _, _, _ => none
  | k + 1, x3, x7, x8, x9 => if x9 < x8 then (if 0 ≤ x9 then (if x9 < (x7.length : Int) then (impl_Crc32.l1 k (Go.bits .xor .u32 x3 ((rd x7 x9) % 4294967296)) x7 x8 x9 0) else (none)) else (none)) else (some (wrap64 (Go.bits .xor .u32 x3 4294967295)))
def impl_Crc32.l1 : Nat → Int → List Int → Int → Int → Int → Option (Int)
  | 0, _, _, _, _, _ => none
  | k + 1, x3, x7, x8, x9, x17 => if x17 < 8 then (if (Go.bits .and .u32 x3 1) = 1 then (impl_Crc32.l1 k (Go.bits .xor .u32 (x3 / 2) 3988292384) x7 x8 x9 (wrap64 (x17 + 1))) else (impl_Crc32.l1 k (x3 / 2) x7 x8 x9 (wrap64 (x17 + 1)))) else (impl_Crc32.l0 k x3 x7 x8 (wrap64 (x9 + 1)))
end
end Go.Proofs.Ytlopmffdebhpfaa.G

/-! ## Cv -/
namespace Go.Proofs.Ytlopmffdebhpfaa.Pure
open Go.RowKit Go.Proofs.Ytlopmffdebhpfaa.G Go.Proofs.YtlopmffdebhpfaaW.PrintWords Go.Proofs.YtlopmffdebhpfaaW.PrintLast Go.Proofs.YtlopmffdebhpfaaW.PrintMore

/-- From some number of rounds on, f comes to v. -/
def Cv {α : Type} (f : Nat → Option α) (v : α) : Prop := ∃ K, ∀ k, K ≤ k → f k = some v
section
variable {α β : Type} {f : Nat → Option α} {v : α} {u : β}
theorem Cv.of {o : Option α} (h : o = some v) : Cv (fun _ => o) v := ⟨0, fun _ _ => h⟩
theorem Cv.bind {g : Nat → α → Option β} (hf : Cv f v) (hg : Cv (fun k => g k v) u) : Cv (fun k => (f k).bind (g k)) u := by
  obtain ⟨a, ha⟩ := hf
  obtain ⟨b, hb⟩ := hg
  exact ⟨max a b, fun k hk => by show (f k).bind (g k) = some u; rw [ha k (by omega), Option.bind_some]; exact hb k (by omega)⟩
theorem Cv.pos {c : Prop} [Decidable c] {g : Nat → Option α} (hc : c) (h : Cv f v) : Cv (fun k => if c then f k else g k) v := by
  obtain ⟨a, ha⟩ := h
  exact ⟨a, fun k hk => by show (if c then f k else g k) = some v; rw [if_pos hc]; exact ha k hk⟩
theorem Cv.neg {c : Prop} [Decidable c] {g : Nat → Option α} (hc : ¬ c) (h : Cv f v) : Cv (fun k => if c then g k else f k) v := by
  obtain ⟨a, ha⟩ := h
  exact ⟨a, fun k hk => by show (if c then g k else f k) = some v; rw [if_neg hc]; exact ha k hk⟩
theorem Cv.succ {g : Nat → Option α} (h : Cv f v) (hs : ∀ k, g (k + 1) = f k) : Cv g v := by
  obtain ⟨a, ha⟩ := h
  refine ⟨a + 1, fun k hk => ?_⟩
  obtain ⟨j, rfl⟩ : ∃ j, k = j + 1 := ⟨k - 1, by omega⟩
  rw [hs]
  exact ha j (by omega)
theorem Cv.from {m : Nat} (h : ∀ k, f (k + m) = some v) : Cv f v := ⟨m, fun k hk => by obtain ⟨j, rfl⟩ : ∃ j, k = j + m := ⟨k - m, by omega⟩; exact h j⟩
theorem Cv.get (h : Cv f v) : ∃ k, f k = some v := ⟨h.choose, h.choose_spec _ (Nat.le_refl _)⟩
theorem Cv.congr {g : Nat → Option α} (h : Cv f v) (e : ∀ k, g k = f k) : Cv g v := by
  have : g = f := funext e
  rw [this]
  exact h
end
/-- Bytes. -/
def By (l : List Int) : Prop := ∀ x ∈ l, 0 ≤ x ∧ x < 256
theorem wf_i64 {x : Int} (h : (Lit.int .i64 x).wf = true) : -9223372036854775808 ≤ x ∧ x ≤ 9223372036854775807 := by
  simp [Lit.wf, IntKind.min, IntKind.max, IntKind.signed, IntKind.bits] at h
  omega
theorem By.append {a b : List Int} (ha : By a) (hb : By b) : By (a ++ b) := fun x hx => by
  rcases List.mem_append.1 hx with h | h
  · exact ha x h
  · exact hb x h
theorem By.take {a : List Int} (h : By a) (n : Nat) : By (a.take n) := fun x hx => h x (List.mem_of_mem_take hx)
theorem By.drop {a : List Int} (h : By a) (n : Nat) : By (a.drop n) := fun x hx => h x (List.mem_of_mem_drop hx)
theorem By.nil : By [] := fun x hx => by cases hx
theorem By.cons {x : Int} {l : List Int} (h0 : 0 ≤ x ∧ x < 256) (h : By l) : By (x :: l) := fun y hy => by
  rcases List.mem_cons.1 hy with h1 | h1
  · rw [h1]; exact h0
  · exact h y h1
theorem rd_mid (pre r : List Int) (c : Int) : rd (pre ++ c :: r) (pre.length : Int) = c := by
  unfold rd
  rw [Int.toNat_natCast, List.getD_eq_getElem?_getD, List.getElem?_append_right (Nat.le_refl _), Nat.sub_self]
  rfl
theorem w64 {n : Int} (h0 : -9223372036854775808 ≤ n) (h1 : n ≤ 9223372036854775807) : wrap64 n = n := by unfold wrap64; omega

/-! ### exclusive or -/
/-! ### the checksum -/
end Go.Proofs.Ytlopmffdebhpfaa.Pure

/-! ## G77 -/
namespace Go.Proofs.Ytlopmffdebhpfaa.G
open Go.RowKit Go.Proofs.YtlopmffdebhpfaaW.PrintWords Go.Proofs.YtlopmffdebhpfaaW.PrintLast Go.Proofs.YtlopmffdebhpfaaW.PrintMore
attribute [local go_sem] max2_int min2_int max_two min_two max_three min_three max_four min_four
set_option linter.unusedVariables false
set_option linter.unusedSimpArgs false

/-! ### spec_l2Num: function 77 -/
end Go.Proofs.Ytlopmffdebhpfaa.G

/-! ## G67 -/
namespace Go.Proofs.Ytlopmffdebhpfaa.G
open Go.RowKit Go.Proofs.YtlopmffdebhpfaaW.PrintWords Go.Proofs.YtlopmffdebhpfaaW.PrintLast Go.Proofs.YtlopmffdebhpfaaW.PrintMore
attribute [local go_sem] max2_int min2_int max_two min_two max_three min_three max_four min_four
set_option linter.unusedVariables false
set_option linter.unusedSimpArgs false

/-! ### spec_l2Low: function 67 -/
end Go.Proofs.Ytlopmffdebhpfaa.G

/-! ## G68 -/
namespace Go.Proofs.Ytlopmffdebhpfaa.G
open Go.RowKit Go.Proofs.YtlopmffdebhpfaaW.PrintWords Go.Proofs.YtlopmffdebhpfaaW.PrintLast Go.Proofs.YtlopmffdebhpfaaW.PrintMore
attribute [local go_sem] max2_int min2_int max_two min_two max_three min_three max_four min_four
set_option linter.unusedVariables false
set_option linter.unusedSimpArgs false

/-! ### spec_l2Same: function 68 -/
end Go.Proofs.Ytlopmffdebhpfaa.G

/-! ## G69 -/
namespace Go.Proofs.Ytlopmffdebhpfaa.G
open Go.RowKit Go.Proofs.YtlopmffdebhpfaaW.PrintWords Go.Proofs.YtlopmffdebhpfaaW.PrintLast Go.Proofs.YtlopmffdebhpfaaW.PrintMore
attribute [local go_sem] max2_int min2_int max_two min_two max_three min_three max_four min_four
set_option linter.unusedVariables false
set_option linter.unusedSimpArgs false

/-! ### spec_l1Bytes: function 69 -/
def spec_l1Bytes.f (l0 : List Int) : Option (List Int) := (some (([] : List Int) : List Int)).bind fun y148 => (if y148.length + l0.length < 140737488355328 then (some (y148 ++ l0)) else (none))
set_option maxHeartbeats 8000000 in
set_option maxRecDepth 100000 in
theorem spec_l1Bytes.calls (A0 : Option Addr) (c0 : Nat) (l0 : List Int) (r : List Int) (w : World) (hr0 : Kd.C (Kd.int .u8) w A0 l0.length l0) (hc0 : l0.length ≤ c0) (h : spec_l1Bytes.f l0 = some r) :
    Calls Try.prog 69 #[.slice A0 l0.length c0] w fun e w' => ∃ v0_ : Value, e = .returned (v0_) ∧ Kd.R (Kd.int .u8) 5 w' w.heap.size (fun _ => True) v0_ r ∧ Below w.heap.size w w' := by
  have HR0 := Aside0.mk hr0
  have HC0 := Aside0.mk hc0
  clear hr0 hc0
  have HB := Aside0.mk (Below.refl w.heap.size w)
  have H : ((some (([] : List Int) : List Int)).bind fun y148 => (if y148.length + l0.length < 140737488355328 then (some (y148 ++ l0)) else (none))) = some r := h
  clear h
  obtain ⟨y148, hy148⟩ : ∃ y_ : List Int, y_ = (([] : List Int)) := ⟨_, rfl⟩
  replace H : (if y148.length + l0.length < 140737488355328 then (some (y148 ++ l0)) else (none)) = some r := by first | (rw [hy148]; with_reducible exact H) | (have H2_ := (Option.bind_some _ _).symm.trans H; rw [hy148]; with_reducible exact H2_) | (have H2_ := (Option.bind_some _ _).symm.trans H; with_reducible exact H2_) | with_reducible exact H | (rw [hy148]; exact H) | exact H
  have Ny148 := Aside0.mk hy148
  clear hy148
  by_cases c2 : y148.length + l0.length < 140737488355328
  · rw [if_pos c2] at H
    have LMc2 := Aside0.mk c2
    clear c2
    obtain ⟨y151, hy151⟩ : ∃ y_ : List Int, y_ = (y148 ++ l0) := ⟨_, rfl⟩
    replace H : (some y151) = some r := by first | (rw [hy151]; with_reducible exact H) | (have H2_ := (Option.bind_some _ _).symm.trans H; rw [hy151]; with_reducible exact H2_) | (have H2_ := (Option.bind_some _ _).symm.trans H; with_reducible exact H2_) | with_reducible exact H | (rw [hy151]; exact H) | exact H
    have Ny151 := Aside0.mk hy151
    clear hy151
    obtain rfl := Option.some.inj H
    go_enter Try.func69, Try.ntmps69
    go_wp2_with (first | ((with_reducible refine gate_dst (N := 4) rfl ?_); refine Kd.R_lit (Kd.int .u8) _ 5 ?hg (N := 4) ?hd (xs := ([] : List Int)) (inner := []) (ok := fun _ => True) (okp := fun _ => True) ?hr ?hp (fun _ hk => hk) trivial (Below.refl _ _) (Nat.le_refl _) (by simp) ?_; (case hd => rfl); (case hg => rfl); (case hr => first | (go_simp; done) | (go_simp; rfl)); (case hp => exact (Reps.none _ _)); intro v149 w3 ho4 hb hg_ hnew_; clear hg_ hnew_; (first | rw [← Ny148.out] at ho4 | (simp only [Int.reduceToNat] at ho4; rw [← Ny148.out] at ho4)); have n0_ := Aside0.mk (Kd.R_lower ho4 (below_size (by repeat (first | (with_reducible first | exact HB.out | apply below_alloc | apply pw_below_drewN | apply below_drew1) | exact HB.out)))); have n1_ := Aside0.mk (below_step (by repeat (first | (with_reducible first | exact HB.out | apply below_alloc | apply pw_below_drewN | apply below_drew1) | exact HB.out)) hb); clear HB; have HO150 := n0_; have HB := n1_; clear n0_ n1_; clear hb ho4) | ((with_reducible refine gate_builtin (b := .append) (xs := #[.tmp 5, .tmp 6]) rfl ?_); at_builtin; refine Kd.R_append_rows (Kd.int .u8) (w0 := w) w.heap.size rfl (.tmp 5) (.tmp 6) 22 5 (.int .u8 0) 1 rfl Try.underlying22 info5 rfl (by decide) (by omega) v149 y148 l0 _ _ _ (fun _ => True) (fun _ => False) rfl rfl ?aO ?aR (fun _ _ h => h) (fun _ h => h.elim) ?aF ?aB ?aS ?aL ?_; (case aR => repeat (first | exact (Kd.C_below HR0.out HB.out) | (with_reducible refine Kd.C_alloc ?_ _) | (with_reducible refine Kd.C_drewN ?_ _) | (with_reducible refine Kd.C_drew ?_))); (case aB => exact (by repeat (first | (with_reducible first | exact HB.out | apply below_alloc | apply pw_below_drewN | apply below_drew1) | exact HB.out))); (case aF => exact (fun _ _ => trivial)); (case aO => exact (by (with_reducible repeat (first | apply Kd.R_alloc | apply Kd.R_drewN | apply Kd.R_drew)); exact HO150.out)); (case aS => exact (below_size (by repeat (first | (with_reducible first | exact HB.out | apply below_alloc | apply pw_below_drewN | apply below_drew1) | exact HB.out)))); (case aL => have := LMc2.out; omega); intro v152 w5 ho hb hg hat; rw [← Ny151.out] at ho; have n0_ := Aside0.mk (hb); have n1_ := Aside0.mk (ho); clear HB; clear HO150; have HB := n0_; have HO153 := n1_; clear n0_ n1_; clear ho hb hg hat))
    go_ret
    exact ⟨_, by first | rfl | (simp [errW_none, errW_some] <;> rfl) | (simp [*, errW_none, errW_some] <;> rfl), by (with_reducible repeat (first | apply Kd.R_alloc | apply Kd.R_drewN | apply Kd.R_drew)); exact HO153.out, by repeat (first | (with_reducible first | exact HB.out | apply below_alloc | apply pw_below_drewN | apply below_drew1) | exact HB.out)⟩
  · rw [if_neg c2] at H
    exact absurd H (by simp)

end Go.Proofs.Ytlopmffdebhpfaa.G

/-! ## G21 -/
namespace Go.Proofs.Ytlopmffdebhpfaa.G
open Go.RowKit Go.Proofs.YtlopmffdebhpfaaW.PrintWords Go.Proofs.YtlopmffdebhpfaaW.PrintLast Go.Proofs.YtlopmffdebhpfaaW.PrintMore
attribute [local go_sem] max2_int min2_int max_two min_two max_three min_three max_four min_four
set_option linter.unusedVariables false
set_option linter.unusedSimpArgs false

/-! ### spec_EncodePage: function 21 -/
end Go.Proofs.Ytlopmffdebhpfaa.G

/-! ## G14 -/
namespace Go.Proofs.Ytlopmffdebhpfaa.G
open Go.RowKit Go.Proofs.YtlopmffdebhpfaaW.PrintWords Go.Proofs.YtlopmffdebhpfaaW.PrintLast Go.Proofs.YtlopmffdebhpfaaW.PrintMore
attribute [local go_sem] max2_int min2_int max_two min_two max_three min_three max_four min_four
set_option linter.unusedVariables false
set_option linter.unusedSimpArgs false

/-! ### spec_DecodePage: function 14 -/
end Go.Proofs.Ytlopmffdebhpfaa.G

/-! ## Base -/
namespace Go.Proofs.Ytlopmffdebhpfaa.G
open Go.RowKit Go.Proofs.YtlopmffdebhpfaaW.PrintWords Go.Proofs.YtlopmffdebhpfaaW.PrintLast Go.Proofs.YtlopmffdebhpfaaW.PrintMore

section
variable {P : Program} {ops : Array Oper} {Q : Exit → Act → World → Prop}
end
end Go.Proofs.Ytlopmffdebhpfaa.G

/-! ## Blk -/
namespace Go.Proofs.Ytlopmffdebhpfaa.G
open Go.RowKit Go.Proofs.YtlopmffdebhpfaaW.PrintWords Go.Proofs.YtlopmffdebhpfaaW.PrintLast Go.Proofs.YtlopmffdebhpfaaW.PrintMore

theorem run_store_blk {P : Program} {W : World} {g : Nat} {e : TypeId} {cur : Array Value} (t : TypeId) (u : Value) (cs' : Array Value) (o : Nat) (seg : List Value) (hh : W.heap[g]? = some (.cells cur e (0, 0))) (hu : u.cells.toList = seg) (ht : (P.info? t).map (·.size) = some seg.length)
    (hfit : o + seg.length ≤ cur.size) (h1 : seg.all (fun q => q.oneCell') = true) (hcs : cs' = (cur.toList.take o ++ seg ++ cur.toList.drop (o + seg.length)).toArray) :
    ∃ w1, (Instr.storeAt t (.pointer (some ⟨g, o, none⟩)) u).run P W = .ok () w1 ∧ w1.heap[g]? = some (.cells cs' e (0, 0)) ∧ W.grownBy w1 (some g) := by
  refine ⟨_, run_store_run t u seg hh hu ht hfit (fun q hq => by simpa using List.all_eq_true.1 h1 q hq), ?_, ?_⟩
  · obtain ⟨cur', h3, h4, h5⟩ := setCells_row seg o W cur hh hfit
    rw [h3]
    have : cur' = cs' := by
      apply Array.ext'
      rw [h5, hcs]
    rw [this]
  · obtain ⟨s1, s2, s3, s4⟩ := setCells_same g seg o W
    exact ⟨s1, s2, s3, by rw [s4]; exact Nat.le_refl _, fun k _ hk => setCells_far _ _ k (fun he => hk (by rw [he]))⟩

section
variable {P : Program} {ops : Array Oper} {rest : List Oper} {o : Oper} {a : Act} {Q : Exit → Act → World → Prop}
/-- In a plain region. -/
theorem store_blk {W : World} (hgd : o.guard = none) (hN : o.dst = none) (t : TypeId) (p x : Operand) (ho : o.op = .store t p x) {g off : Nat} {u : Value} (cs' : Array Value) (hp : a.eval p = .pointer (some ⟨g, off, none⟩)) (hx : a.eval x = u)
    {e : TypeId} {cur : Array Value} (hh : W.heap[g]? = some (.cells cur e (0, 0))) (seg : List Value) (hu : u.cells.toList = seg) (ht : (P.info? t).map (·.size) = some seg.length)
    (hfit : off + seg.length ≤ cur.size) (h1 : seg.all (fun q => q.oneCell') = true) (hcs : cs' = (cur.toList.take off ++ seg ++ cur.toList.drop (off + seg.length)).toArray)
    (h : ∀ w1, w1.heap[g]? = some (.cells cs' e (0, 0)) → W.grownBy w1 (some g) → wpList P ops Q rest a w1) : wpList P ops Q (o :: rest) a W := by
  obtain ⟨w1, hr, h2, h3⟩ := run_store_blk (P := P) t u cs' off seg hh hu ht hfit h1 hcs
  refine wpList_plain hgd fun K hK => ?_
  unfold Oper.wp execOp
  simp only [ho, hp, hx, Sem.run_bind, Sem.run_pure, Result.andThen_ok, hr]
  show K (a.put o.dst undef) w1
  rw [hN]
  exact hK _ _ (h _ h2 h3)
/-- In a region that draws its order. -/
theorem store_blk_step {W : World} {K : Act → World → Prop} (hw : Region.wanted o (yielded ops a.tmps) = true) (hN : o.dst = none) (t : TypeId) (p x : Operand) (ho : o.op = .store t p x) {g off : Nat} {u : Value} (cs' : Array Value) (hp : a.eval p = .pointer (some ⟨g, off, none⟩)) (hx : a.eval x = u)
    {e : TypeId} {cur : Array Value} (hh : W.heap[g]? = some (.cells cur e (0, 0))) (seg : List Value) (hu : u.cells.toList = seg) (ht : (P.info? t).map (·.size) = some seg.length)
    (hfit : off + seg.length ≤ cur.size) (h1 : seg.all (fun q => q.oneCell') = true) (hcs : cs' = (cur.toList.take off ++ seg ++ cur.toList.drop (off + seg.length)).toArray)
    (h : ∀ w1, w1.heap[g]? = some (.cells cs' e (0, 0)) → W.grownBy w1 (some g) → K a w1) : if Region.wanted o (yielded ops a.tmps) = true then Oper.wp P o a W K Q else K (a.put none undef) W := by
  obtain ⟨w1, hr, h2, h3⟩ := run_store_blk (P := P) t u cs' off seg hh hu ht hfit h1 hcs
  rw [if_pos hw]
  unfold Oper.wp execOp
  simp only [ho, hp, hx, Sem.run_bind, Sem.run_pure, Result.andThen_ok, hr]
  show K (a.put o.dst undef) w1
  rw [hN]
  exact h _ h2 h3
end
end Go.Proofs.Ytlopmffdebhpfaa.G

/-! ## G135 -/
namespace Go.Proofs.Ytlopmffdebhpfaa.G
open Go.RowKit Go.Proofs.YtlopmffdebhpfaaW.PrintWords Go.Proofs.YtlopmffdebhpfaaW.PrintLast Go.Proofs.YtlopmffdebhpfaaW.PrintMore
attribute [local go_sem] max2_int min2_int max_two min_two max_three min_three max_four min_four
set_option linter.unusedVariables false
set_option linter.unusedSimpArgs false

/-! ### impl_low: function 135 -/
end Go.Proofs.Ytlopmffdebhpfaa.G

/-! ## Shelf -/
namespace Go.Proofs
open Go.Shelf
end Go.Proofs

/-! ## Lib1 -/
namespace Go.Proofs.Ytlopmffdebhpfaa.G
open Go.RowKit Go.Proofs.YtlopmffdebhpfaaW.PrintWords Go.Proofs.YtlopmffdebhpfaaW.PrintLast Go.Proofs.YtlopmffdebhpfaaW.PrintMore

/-- What a slice of numbers that is read holds, cell by cell. -/
theorem C_cells {k : IntKind} {w : World} {A : Option Addr} {n : Nat} {xs : List Int} (h : Kd.C (Kd.int k) w A n xs) :
    xs.length = n ∧ n ≤ 9223372036854775807 ∧ (0 < n → ∃ ad, A = some ad ∧ ∀ j x, xs[j]? = some x → w.cell? (ad.add j) = some (.int k x)) := by
  refine ⟨h.1, h.2.1, fun hn => ?_⟩
  obtain ⟨ad, e, hc⟩ := h.2.2 hn
  refine ⟨ad, e, fun j x hx => ?_⟩
  obtain ⟨c, _, hK, hcell⟩ := hc j x hx
  have hK' : c = [.int k x] := hK
  subst hK'
  have := hcell 0 _ rfl
  rwa [show (Kd.int k).sz = 1 from rfl, Nat.mul_one, Nat.add_zero] at this

end Go.Proofs.Ytlopmffdebhpfaa.G

/-! ## Head -/
namespace Go.Proofs.Ytlopmffdebhpfaa.G
open Go.RowKit Go.Proofs.YtlopmffdebhpfaaW.PrintWords Go.Proofs.YtlopmffdebhpfaaW.PrintLast Go.Proofs.YtlopmffdebhpfaaW.PrintMore
attribute [local go_sem] max2_int min2_int max_two min_two max_three min_three max_four min_four
set_option linter.unusedVariables false
set_option linter.unusedSimpArgs false

/-! ### impl_head_bytes: function 134 -/
end Go.Proofs.Ytlopmffdebhpfaa.G

/-! ## PageB -/
namespace Go.Proofs.Ytlopmffdebhpfaa.G
open Go.RowKit Go.Proofs.YtlopmffdebhpfaaW.PrintWords Go.Proofs.YtlopmffdebhpfaaW.PrintLast Go.Proofs.YtlopmffdebhpfaaW.PrintMore
set_option linter.unusedVariables false
set_option linter.unusedSimpArgs false

end Go.Proofs.Ytlopmffdebhpfaa.G

/-! ## G130 -/
namespace Go.Proofs.Ytlopmffdebhpfaa.G
open Go.RowKit Go.Proofs.YtlopmffdebhpfaaW.PrintWords Go.Proofs.YtlopmffdebhpfaaW.PrintLast Go.Proofs.YtlopmffdebhpfaaW.PrintMore
attribute [local go_sem] max2_int min2_int max_two min_two max_three min_three max_four min_four
set_option linter.unusedVariables false
set_option linter.unusedSimpArgs false

/-! ### impl_numberAt: function 130 -/
end Go.Proofs.Ytlopmffdebhpfaa.G

/-! ## G79 -/
namespace Go.Proofs.Ytlopmffdebhpfaa.G
open Go.RowKit Go.Proofs.YtlopmffdebhpfaaW.PrintWords Go.Proofs.YtlopmffdebhpfaaW.PrintLast Go.Proofs.YtlopmffdebhpfaaW.PrintMore
attribute [local go_sem] max2_int min2_int max_two min_two max_three min_three max_four min_four
set_option linter.unusedVariables false
set_option linter.unusedSimpArgs false

/-! ### impl_head_valid: function 79 -/
end Go.Proofs.Ytlopmffdebhpfaa.G

/-! ## G131 -/
namespace Go.Proofs.Ytlopmffdebhpfaa.G
open Go.RowKit Go.Proofs.YtlopmffdebhpfaaW.PrintWords Go.Proofs.YtlopmffdebhpfaaW.PrintLast Go.Proofs.YtlopmffdebhpfaaW.PrintMore
attribute [local go_sem] max2_int min2_int max_two min_two max_three min_three max_four min_four
set_option linter.unusedVariables false
set_option linter.unusedSimpArgs false

/-! ### bytes_Equal: function 131 -/
end Go.Proofs.Ytlopmffdebhpfaa.G

/-! ## Parse -/
namespace Go.Proofs.Ytlopmffdebhpfaa.G
open Go.RowKit Go.Proofs.YtlopmffdebhpfaaW.PrintWords Go.Proofs.YtlopmffdebhpfaaW.PrintLast Go.Proofs.YtlopmffdebhpfaaW.PrintMore
set_option linter.unusedVariables false
set_option linter.unusedSimpArgs false

theorem results_cell_slot {P : Program} {fn : Func} {p q : Tmp} {ty : TypeId} (h : fn.results = #[.cell p ty, .tmp q]) (tmps : Array Value) (w : World) (g : Nat) (t : TypeId) (cs : Array Value) (fr : Nat × Nat) (d : TypeDesc) (v : Value)
    (hp : tmps.getD p undef = .pointer (some ⟨g, 0, none⟩)) (hv : tmps.getD q undef = v) (hg : w.heap[g]? = some (.cells cs t fr))
    (hu : P.underlying ty = some d) (hd : (match d with | .struct _ | .array _ _ => true | _ => false) = true) (hi : (P.info? ty).map (·.size) = some cs.size) :
    (results fn tmps).run P w = .ok (.tuple #[.agg cs, v]) w := by
  have hp' : tmps[p]?.getD undef = .pointer (some ⟨g, 0, none⟩) := by simpa using hp
  have hv' : tmps[q]?.getD undef = v := by simpa using hv
  simp [results, h, hp', hv', asAddr, run_loadVar_row w g t ty cs fr d hg hu hd hi]

end Go.Proofs.Ytlopmffdebhpfaa.G

/-! ## Err -/
namespace Go.Proofs.Ytlopmffdebhpfaa.G
open Go.RowKit Go.Extern.Stop Go.Stop Go.Extern
end Go.Proofs.Ytlopmffdebhpfaa.G

/-! ## Page -/
namespace Go.Proofs.Ytlopmffdebhpfaa.G
open Go.RowKit Go.Proofs.YtlopmffdebhpfaaW.PrintWords Go.Proofs.YtlopmffdebhpfaaW.PrintLast Go.Proofs.YtlopmffdebhpfaaW.PrintMore
set_option linter.unusedVariables false
set_option linter.unusedSimpArgs false

end Go.Proofs.Ytlopmffdebhpfaa.G

/-! ## Enc -/
namespace Go.Proofs.Ytlopmffdebhpfaa.Pure
open Go.RowKit Go.Proofs.Ytlopmffdebhpfaa.G Go.Proofs.YtlopmffdebhpfaaW.PrintWords Go.Proofs.YtlopmffdebhpfaaW.PrintLast Go.Proofs.YtlopmffdebhpfaaW.PrintMore

/-! ### the document's page -/
def okPage (id kind : Int) (n : Nat) : Prop := 0 ≤ id ∧ id ≤ 1023 ∧ 1 ≤ kind ∧ kind ≤ 4 ∧ n ≤ 240
instance (id kind : Int) (n : Nat) : Decidable (okPage id kind n) := by unfold okPage; exact inferInstance
end Go.Proofs.Ytlopmffdebhpfaa.Pure

/-! ## G15 -/
namespace Go.Proofs.Ytlopmffdebhpfaa.G
open Go.RowKit Go.Proofs.YtlopmffdebhpfaaW.PrintWords Go.Proofs.YtlopmffdebhpfaaW.PrintLast Go.Proofs.YtlopmffdebhpfaaW.PrintMore
attribute [local go_sem] max2_int min2_int max_two min_two max_three min_three max_four min_four
set_option linter.unusedVariables false
set_option linter.unusedSimpArgs false

/-! ### laws_toByteS: function 15 -/
def laws_toByteS.l0 : Nat → List Int → List Int → Int → Option (List Int)
  | 0, _, _, _ => none
  | k + 1, x0, x3, x4 => if x4 < (x0.length : Int) then (if 0 ≤ x4 then (if x4 < (x3.length : Int) then (laws_toByteS.l0 k x0 (x3.set (x4 : Int).toNat (rd x0 x4)) (wrap64 (x4 + 1))) else (none)) else (none)) else (some x3)
def laws_toByteS.f (k : Nat) (l0 : List Int) : Option (List Int) := if 0 ≤ (l0.length : Int) then (if ((l0.length : Int) : Int).toNat ≤ 281474976710656 then (laws_toByteS.l0 k l0 (List.replicate ((l0.length : Int) : Int).toNat 0) 0) else (none)) else (none)
set_option maxHeartbeats 8000000 in
set_option maxRecDepth 100000 in
theorem laws_toByteS.calls (k : Nat) (A0 : Option Addr) (c0 : Nat) (l0 : List Int) (r : List Int) (w : World) (hr0 : Kd.C (Kd.int .u8) w A0 l0.length l0) (hc0 : l0.length ≤ c0) (h : laws_toByteS.f k l0 = some r) :
    Calls Try.prog 15 #[.slice A0 l0.length c0] w fun e w' => ∃ v0_ : Value, e = .returned (v0_) ∧ Kd.R (Kd.int .u8) 5 w' w.heap.size (fun _ => True) v0_ r ∧ Below w.heap.size w w' := by
  have HR0 := Aside0.mk hr0
  have HC0 := Aside0.mk hc0
  clear hr0 hc0
  have HB := Aside0.mk (Below.refl w.heap.size w)
  have H : (if 0 ≤ (l0.length : Int) then (if ((l0.length : Int) : Int).toNat ≤ 281474976710656 then (laws_toByteS.l0 k l0 (List.replicate ((l0.length : Int) : Int).toNat 0) 0) else (none)) else (none)) = some r := h
  clear h
  by_cases c2 : 0 ≤ (l0.length : Int)
  · rw [if_pos c2] at H
    have c2b0 := eq_true c2
    have c2b1 : decide (0 ≤ (l0.length : Int)) = true := decide_eq_true c2
    clear c2
    by_cases c3 : ((l0.length : Int) : Int).toNat ≤ 281474976710656
    · rw [if_pos c3] at H
      have c3b0 := eq_true c3
      have c3b1 : decide (((l0.length : Int) : Int).toNat ≤ 281474976710656) = true := decide_eq_true c3
      clear c3
      obtain ⟨y171, hy171⟩ : ∃ y_ : List Int, y_ = (List.replicate ((l0.length : Int) : Int).toNat 0) := ⟨_, rfl⟩
      replace H : (laws_toByteS.l0 k l0 y171 0) = some r := by first | (rw [hy171]; with_reducible exact H) | (have H2_ := (Option.bind_some _ _).symm.trans H; rw [hy171]; with_reducible exact H2_) | (have H2_ := (Option.bind_some _ _).symm.trans H; with_reducible exact H2_) | with_reducible exact H | (rw [hy171]; exact H) | exact H
      have Ny171 := Aside0.mk hy171
      clear hy171
      have H' := Aside0.mk H
      clear H
      go_enter Try.func15, Try.ntmps15
      go_wp2_with (first | ((with_reducible refine gate_dst (N := 7) rfl ?_); refine Kd.R_make (Kd.int .u8) _ 5 rfl (N := 7) rfl 22 _ _ rfl (l0.length : Int) rfl rfl Try.underlying22 (.int .u8 0) 1 info5 rfl (by decide) (by omega) 0 (ok := fun _ => True) (okp := fun _ => True) rfl (fun _ hk => hk) trivial (of_decide_eq_true (by first | (with_reducible assumption) | assumption)) (Nat.le_trans (Nat.mul_le_mul_right _ (of_decide_eq_true (by first | (with_reducible assumption) | assumption) : (l0.length : Int).toNat ≤ 281474976710656)) (by omega)) (Below.refl _ _) (Nat.le_refl _) ?_; intro v172 w4 ho5 hb hg_ hnew_; clear hg_ hnew_; (first | rw [← Ny171.out] at ho5 | (simp only [Int.reduceToNat] at ho5; rw [← Ny171.out] at ho5)); have n0_ := Aside0.mk (Kd.R_lower ho5 (below_size (by repeat (first | (with_reducible first | exact HB.out | apply below_alloc | apply pw_below_drewN | apply below_drew1) | exact HB.out)))); have n1_ := Aside0.mk (below_step (by repeat (first | (with_reducible first | exact HB.out | apply below_alloc | apply pw_below_drewN | apply below_drew1) | exact HB.out)) hb); clear HB; have HO173 := n0_; have HB := n1_; clear n0_ n1_; clear hb ho5))
      go_loopg [4] k (fun kq v4 w' => ∃ (x3_1 : List Int) (x4_1 : Int), v4 = .int .i64 x4_1 ∧ Aside0 (laws_toByteS.l0 kq l0 x3_1 x4_1 = some r) ∧ Aside0 (kq ≤ k) ∧ Aside0 (Kd.R (Kd.int .u8) 5 w' w.heap.size (fun _ => True) v172 x3_1) ∧ Aside0 (Below w.heap.size w w'))
      case atStart => exact ⟨(y171), (0), (by first | rfl | (simp; done) | (simp [*]; done)), H', ⟨Nat.le_refl _⟩, ⟨by (with_reducible repeat (first | apply Kd.R_alloc | apply Kd.R_drewN | apply Kd.R_drew)); exact HO173.out⟩, ⟨by repeat (first | (with_reducible first | exact HB.out | apply below_alloc | apply pw_below_drewN | apply below_drew1) | exact HB.out)⟩⟩
      case round =>
        clear H'
        try clear c1
        try clear c2
        try clear c2b0
        try clear c2b1
        try clear p2
        try clear c3
        try clear c3b0
        try clear c3b1
        obtain ⟨x3_1, x4_1, rfl, HA, HK1, HO_3, HB⟩ := hrel
        cases gk with
        | zero => exact absurd HA.out (by simp [laws_toByteS.l0])
        | succ k1 =>
          have H := HA.out
          clear HA
          simp only [laws_toByteS.l0] at H
          by_cases c6 : x4_1 < (l0.length : Int)
          · rw [if_pos c6] at H
            have c6b0 : decide (x4_1 < (l0.length : Int)) = true := decide_eq_true c6
            clear c6
            by_cases c7 : 0 ≤ x4_1
            · rw [if_pos c7] at H
              have c7b0 : decide (0 ≤ x4_1) = true := decide_eq_true c7
              clear c7
              by_cases c8 : x4_1 < (x3_1.length : Int)
              · rw [if_pos c8] at H
                have c8b0 : decide (x4_1 < (x3_1.length : Int)) = true := decide_eq_true c8
                clear c8
                obtain ⟨y175, hy175⟩ : ∃ y_ : List Int, y_ = (x3_1.set (x4_1 : Int).toNat (rd l0 x4_1)) := ⟨_, rfl⟩
                replace H : (laws_toByteS.l0 k1 l0 y175 (wrap64 (x4_1 + 1))) = some r := by first | (rw [hy175]; with_reducible exact H) | (have H2_ := (Option.bind_some _ _).symm.trans H; rw [hy175]; with_reducible exact H2_) | (have H2_ := (Option.bind_some _ _).symm.trans H; with_reducible exact H2_) | with_reducible exact H | (rw [hy175]; exact H) | exact H
                have Ny175 := Aside0.mk hy175
                clear hy175
                have H' := Aside0.mk H
                clear H
                have p174 : 0 ≤ (x4_1 : Int) := of_decide_eq_true (by first | (with_reducible assumption) | assumption)
                have q174 : x4_1 < (l0.length : Int) := of_decide_eq_true (by first | (with_reducible assumption) | assumption)
                obtain ⟨ad174, e174, hx174_0⟩ := Kd.at_int HR0.out x4_1 p174 q174
                cases e174
                replace hx174_0 := (HB.out.cell (World.block_lt_of_cell? w _ hx174_0)).trans hx174_0
                replace p174 := eq_true p174
                replace q174 := eq_true q174
                have p9 : 0 ≤ (x4_1 : Int) := of_decide_eq_true (by first | (with_reducible assumption) | assumption)
                have q9 : (x4_1 : Int) < ((x3_1.length : Int) : Int) := of_decide_eq_true (by first | (with_reducible assumption) | assumption)
                obtain ⟨go9, co9, eo9, gb9, gl9, cl9, HG9⟩ := Kd.R_form HO_3.out (by omega)
                (first | cases eo9 | (injection eo9 with ea_ en_ ec_; (first | subst ea_ | (injection ea_ with ea_; subst ea_)); subst ec_; clear en_))
                have GB9 := Aside0.mk gb9
                have GG9 := Aside0.mk HG9
                clear gb9 gl9 HG9
                obtain ⟨hx9_0, hf9_0⟩ := Kd.R_celln 0 HO_3.out (x4_1 : Int) p9 q9
                replace p9 := eq_true p9
                replace q9 := eq_true q9
                have HP10 := Kd.R_putg HO_3.out (x4_1 : Int) (rd l0 x4_1)
                go_wp2_with (first | ((with_reducible refine gate_store (t := 5) (p := 20) rfl ?_); refine store_event (t := 5) (p := 20) (v := ?vo_w11) (w1 := (wr.setCell ⟨go9, (x4_1 : Int).toNat, none⟩ (.int .u8 (rd l0 x4_1)))) ?hg ?ho ?hn ?hr ?_; (case ho => rfl); (case hg => rfl); (case hn => rfl); (case hr => first | (go_simp; done) | (go_simp; rfl)); intro w11 hw; have hg : wr.grownBy w11 (some go9) := (by rw [hw]; exact HP10.2); have hp_ : Kd.R (Kd.int .u8) 5 w11 w.heap.size (fun _ => True) (.slice (some ⟨go9, 0, none⟩) x3_1.length co9) y175 := (by rw [hw, Ny175.out]; exact HP10.1); clear HP10; have n0_ := Aside0.mk (hp_); have n1_ := Aside0.mk ((by rw [hw]; exact below_set (HB.out) GB9.out : Below w.heap.size w w11)); clear HO_3; clear HB; have HO_3 := n0_; have HB := n1_; clear n0_ n1_; clear hg hw hp_))
                go_roundg k1
                case measure => have := HK1.out; omega
                case rel => exact ⟨(y175), (wrap64 (x4_1 + 1)), (by first | rfl | (simp; done) | (simp [*]; done)), H', ⟨by have := HK1.out; omega⟩, ⟨by (with_reducible repeat (first | apply Kd.R_alloc | apply Kd.R_drewN | apply Kd.R_drew)); exact HO_3.out⟩, ⟨by repeat (first | (with_reducible first | exact HB.out | apply below_alloc | apply pw_below_drewN | apply below_drew1) | exact HB.out)⟩⟩
              · rw [if_neg c8] at H
                exact absurd H (by simp)
            · rw [if_neg c7] at H
              exact absurd H (by simp)
          · rw [if_neg c6] at H
            have c6b0 : decide (x4_1 < (l0.length : Int)) = false := decide_eq_false c6
            clear c6
            obtain rfl := Option.some.inj H
            go_wp2
            go_ret
            exact ⟨_, by first | rfl | (simp [errW_none, errW_some] <;> rfl) | (simp [*, errW_none, errW_some] <;> rfl), by (with_reducible repeat (first | apply Kd.R_alloc | apply Kd.R_drewN | apply Kd.R_drew)); exact HO_3.out, by repeat (first | (with_reducible first | exact HB.out | apply below_alloc | apply pw_below_drewN | apply below_drew1) | exact HB.out)⟩
    · rw [if_neg c3] at H
      exact absurd H (by simp)
  · rw [if_neg c2] at H
    exact absurd H (by simp)

end Go.Proofs.Ytlopmffdebhpfaa.G

/-! ## G17 -/
namespace Go.Proofs.Ytlopmffdebhpfaa.G
open Go.RowKit Go.Proofs.YtlopmffdebhpfaaW.PrintWords Go.Proofs.YtlopmffdebhpfaaW.PrintLast Go.Proofs.YtlopmffdebhpfaaW.PrintMore
attribute [local go_sem] max2_int min2_int max_two min_two max_three min_three max_four min_four
set_option linter.unusedVariables false
set_option linter.unusedSimpArgs false

/-! ### laws_eqByteS: function 17 -/
def laws_eqByteS.l0 : Nat → List Int → List Int → Int → Option (Bool)
  | 0, _, _, _ => none
  | k + 1, x0, x1, x5 => if x5 < (x0.length : Int) then (if 0 ≤ x5 then (if x5 < (x1.length : Int) then (if (rd x0 x5) = (rd x1 x5) then (laws_eqByteS.l0 k x0 x1 (wrap64 (x5 + 1))) else (some false)) else (none)) else (none)) else (some true)
def laws_eqByteS.f (k : Nat) (l0 : List Int) (l1 : List Int) : Option (Bool) := if (l0.length : Int) = (l1.length : Int) then (laws_eqByteS.l0 k l0 l1 0) else (some false)
set_option maxHeartbeats 8000000 in
set_option maxRecDepth 100000 in
theorem laws_eqByteS.calls (k : Nat) (A0 : Option Addr) (c0 : Nat) (l0 : List Int) (A1 : Option Addr) (c1 : Nat) (l1 : List Int) (r : Bool) (w : World) (hr0 : Kd.C (Kd.int .u8) w A0 l0.length l0) (hc0 : l0.length ≤ c0) (hr1 : Kd.C (Kd.int .u8) w A1 l1.length l1) (hc1 : l1.length ≤ c1) (h : laws_eqByteS.f k l0 l1 = some r) :
    Calls Try.prog 17 #[.slice A0 l0.length c0, .slice A1 l1.length c1] w fun e w' => e = .returned (.bool r) ∧ Drawn0 w w' := by
  have HR0 := Aside0.mk hr0
  have HC0 := Aside0.mk hc0
  clear hr0 hc0
  have HR1 := Aside0.mk hr1
  have HC1 := Aside0.mk hc1
  clear hr1 hc1
  have H : (if (l0.length : Int) = (l1.length : Int) then (laws_eqByteS.l0 k l0 l1 0) else (some false)) = some r := h
  clear h
  by_cases c3 : (l0.length : Int) = (l1.length : Int)
  · rw [if_pos c3] at H
    have c3b0 : ((l0.length : Int) == (l1.length : Int)) = true := beq_iff_eq.mpr c3
    have c3b1 : ((l0.length : Int) != (l1.length : Int)) = false := bne_eq_false_iff_eq.mpr c3
    have c3b2 : (l0.length == l1.length) = true := by first | simpa using c3 | (simp at c3 ⊢; omega)
    clear c3
    have H' := Aside0.mk H
    clear H
    go_enter Try.func17, Try.ntmps17
    go_wp2
    repeat (go_quiet (fail); try go_wp2)
    go_loopg [5] k (fun kq v5 w' => ∃ (x5_1 : Int), v5 = .int .i64 x5_1 ∧ Aside0 (laws_eqByteS.l0 kq l0 l1 x5_1 = some r) ∧ Aside0 (kq ≤ k) ∧ Drawn0 w w')
    case atStart => exact ⟨(0), (by first | rfl | (simp; done) | (simp [*]; done)), H', ⟨Nat.le_refl _⟩, by repeat (first | exact Drawn0.refl _ | apply Drawn0.step)⟩
    case round =>
      clear H'
      try clear c1
      try clear p2
      try clear c3
      try clear c3b0
      try clear c3b1
      try clear c3b2
      obtain ⟨x5_1, rfl, HA, HK1, ⟨m1, rfl⟩⟩ := hrel
      cases gk with
      | zero => exact absurd HA.out (by simp [laws_eqByteS.l0])
      | succ k1 =>
        have H := HA.out
        clear HA
        simp only [laws_eqByteS.l0] at H
        by_cases c4 : x5_1 < (l0.length : Int)
        · rw [if_pos c4] at H
          have c4b0 : decide (x5_1 < (l0.length : Int)) = true := decide_eq_true c4
          clear c4
          by_cases c5 : 0 ≤ x5_1
          · rw [if_pos c5] at H
            have c5b0 : decide (0 ≤ x5_1) = true := decide_eq_true c5
            clear c5
            by_cases c6 : x5_1 < (l1.length : Int)
            · rw [if_pos c6] at H
              have c6b0 : decide (x5_1 < (l1.length : Int)) = true := decide_eq_true c6
              clear c6
              by_cases c7 : (rd l0 x5_1) = (rd l1 x5_1)
              · rw [if_pos c7] at H
                have c7b0 : ((rd l0 x5_1) == (rd l1 x5_1)) = true := beq_iff_eq.mpr c7
                have c7b1 : ((rd l0 x5_1) != (rd l1 x5_1)) = false := bne_eq_false_iff_eq.mpr c7
                clear c7
                have H' := Aside0.mk H
                clear H
                have p176 : 0 ≤ (x5_1 : Int) := of_decide_eq_true (by first | (with_reducible assumption) | assumption)
                have q176 : x5_1 < (l0.length : Int) := of_decide_eq_true (by first | (with_reducible assumption) | assumption)
                obtain ⟨ad176, e176, hx176_0⟩ := Kd.at_int HR0.out x5_1 p176 q176
                cases e176
                replace p176 := eq_true p176
                replace q176 := eq_true q176
                have p177 : 0 ≤ (x5_1 : Int) := of_decide_eq_true (by first | (with_reducible assumption) | assumption)
                have q177 : x5_1 < (l1.length : Int) := of_decide_eq_true (by first | (with_reducible assumption) | assumption)
                obtain ⟨ad177, e177, hx177_0⟩ := Kd.at_int HR1.out x5_1 p177 q177
                cases e177
                replace p177 := eq_true p177
                replace q177 := eq_true q177
                go_wp2
                repeat (go_quiet (fail); try go_wp2)
                go_roundg k1
                case measure => have := HK1.out; omega
                case rel => exact ⟨(wrap64 (x5_1 + 1)), (by first | rfl | (simp; done) | (simp [*]; done)), H', ⟨by have := HK1.out; omega⟩, by repeat (first | exact Drawn0.refl _ | apply Drawn0.step)⟩
              · rw [if_neg c7] at H
                have c7b0 : ((rd l0 x5_1) == (rd l1 x5_1)) = false := beq_eq_false_iff_ne.mpr c7
                have c7b1 : ((rd l0 x5_1) != (rd l1 x5_1)) = true := bne_iff_ne.mpr c7
                obtain rfl := Option.some.inj H
                have p176 : 0 ≤ (x5_1 : Int) := of_decide_eq_true (by first | (with_reducible assumption) | assumption)
                have q176 : x5_1 < (l0.length : Int) := of_decide_eq_true (by first | (with_reducible assumption) | assumption)
                obtain ⟨ad176, e176, hx176_0⟩ := Kd.at_int HR0.out x5_1 p176 q176
                cases e176
                replace p176 := eq_true p176
                replace q176 := eq_true q176
                have p177 : 0 ≤ (x5_1 : Int) := of_decide_eq_true (by first | (with_reducible assumption) | assumption)
                have q177 : x5_1 < (l1.length : Int) := of_decide_eq_true (by first | (with_reducible assumption) | assumption)
                obtain ⟨ad177, e177, hx177_0⟩ := Kd.at_int HR1.out x5_1 p177 q177
                cases e177
                replace p177 := eq_true p177
                replace q177 := eq_true q177
                go_wp2
                repeat (go_quiet (fail); try go_wp2)
                go_ret
                exact ⟨by first | rfl | (simp; done) | (simp [*]; done), by repeat (first | exact Drawn0.refl _ | apply Drawn0.step)⟩
            · rw [if_neg c6] at H
              exact absurd H (by simp)
          · rw [if_neg c5] at H
            exact absurd H (by simp)
        · rw [if_neg c4] at H
          have c4b0 : decide (x5_1 < (l0.length : Int)) = false := decide_eq_false c4
          clear c4
          obtain rfl := Option.some.inj H
          go_wp2
          repeat (go_quiet (fail); try go_wp2)
          go_ret
          exact ⟨by first | rfl | (simp; done) | (simp [*]; done), by repeat (first | exact Drawn0.refl _ | apply Drawn0.step)⟩
  · rw [if_neg c3] at H
    have c3b0 : ((l0.length : Int) == (l1.length : Int)) = false := beq_eq_false_iff_ne.mpr c3
    have c3b1 : ((l0.length : Int) != (l1.length : Int)) = true := bne_iff_ne.mpr c3
    have c3b2 : (l0.length == l1.length) = false := by first | simpa using c3 | (simp at c3 ⊢; omega)
    obtain rfl := Option.some.inj H
    go_enter Try.func17, Try.ntmps17
    go_wp2
    repeat (go_quiet (fail); try go_wp2)
    go_ret
    exact ⟨by first | rfl | (simp; done) | (simp [*]; done), by repeat (first | exact Drawn0.refl _ | apply Drawn0.step)⟩

end Go.Proofs.Ytlopmffdebhpfaa.G

/-! ## G18 -/
namespace Go.Proofs.Ytlopmffdebhpfaa.G
open Go.RowKit Go.Proofs.YtlopmffdebhpfaaW.PrintWords Go.Proofs.YtlopmffdebhpfaaW.PrintLast Go.Proofs.YtlopmffdebhpfaaW.PrintMore
attribute [local go_sem] max2_int min2_int max_two min_two max_three min_three max_four min_four
set_option linter.unusedVariables false
set_option linter.unusedSimpArgs false

/-! ### laws_markByteS: function 18 -/
def laws_markByteS.l0 : Nat → List Int → Int → Int → Option (Int × List Int)
  | 0, _, _, _ => none
  | k + 1, x0, x1, x5 => if x5 < (x0.length : Int) then (if 0 ≤ x5 then (laws_markByteS.l0 k (x0.set (x5 : Int).toNat ((x1) % 256)) (wrap64 (x1 + 1)) (wrap64 (x5 + 1))) else (none)) else (some (x1, x0))
def laws_markByteS.f (k : Nat) (l0 : List Int) (a1 : Int) : Option (Int × List Int) := laws_markByteS.l0 k l0 a1 0
set_option maxHeartbeats 8000000 in
set_option maxRecDepth 100000 in
theorem laws_markByteS.calls (k : Nat) (P0_ : Nat → Prop) (u9000_ : Value) (l0 : List Int) (a1 : Int) (r1 : Int) (r2 : List Int) (w0 w : World) (hB : Below w0.heap.size w0 w) (ho0 : Kd.R (Kd.int .u8) 5 w w0.heap.size P0_ u9000_ l0) (h : laws_markByteS.f k l0 a1 = some (r1, r2)) :
    Calls Try.prog 18 #[u9000_, .int .i64 a1] w fun e w' => e = .returned (.int .i64 r1) ∧ Kd.R (Kd.int .u8) 5 w' w0.heap.size (fun k_ => (P0_ k_ ∨ w.heap.size ≤ k_)) u9000_ r2 ∧ Below w0.heap.size w0 w' ∧ Kept w w' (fun k_ => P0_ k_) := by
  have HO0 := Aside0.mk (show Kd.R (Kd.int .u8) 5 w w0.heap.size (fun k_ => (P0_ k_ ∨ w.heap.size ≤ k_)) u9000_ l0 from Kd.R_mono ho0 (fun k_ hk => (.inl hk)))
  have HK := Aside0.mk (Kept.refl w (fun k_ => P0_ k_))
  have HW0 := Aside0.mk hB.size
  have HB := Aside0.mk hB
  clear hB
  have H : (laws_markByteS.l0 k l0 a1 0) = some (r1, r2) := h
  clear h
  have H' := Aside0.mk H
  clear H
  go_enter Try.func18, Try.ntmps18
  go_wp2
  go_loopg [1, 5] k (fun kq v1 v5 w' => ∃ (x0_1 : List Int) (x1_1 : Int) (x5_1 : Int), v1 = .int .i64 x1_1 ∧ v5 = .int .i64 x5_1 ∧ Aside0 (laws_markByteS.l0 kq x0_1 x1_1 x5_1 = some (r1, r2)) ∧ Aside0 (kq ≤ k) ∧ Aside0 (Kd.R (Kd.int .u8) 5 w' w0.heap.size (fun k_ => (P0_ k_ ∨ w.heap.size ≤ k_)) u9000_ x0_1) ∧ Aside0 (Kept w w' (fun k_ => P0_ k_)) ∧ Aside0 (Below w0.heap.size w0 w'))
  case atStart => exact ⟨(l0), (a1), (0), (by first | rfl | (simp; done) | (simp [*]; done)), (by first | rfl | (simp; done) | (simp [*]; done)), H', ⟨Nat.le_refl _⟩, ⟨by (with_reducible repeat (first | apply Kd.R_alloc | apply Kd.R_drewN | apply Kd.R_drew)); exact HO0.out⟩, ⟨by repeat (first | (with_reducible first | exact HK.out | apply Kept.alloc | apply Kept.drewN | apply Kept.drew) | exact HK.out)⟩, ⟨by repeat (first | (with_reducible first | exact HB.out | apply below_alloc | apply pw_below_drewN | apply below_drew1) | exact HB.out)⟩⟩
  case round =>
    clear H'
    try clear c1
    try clear p2
    obtain ⟨x0_1, x1_1, x5_1, rfl, rfl, HA, HK1, HO_0, HK, HB⟩ := hrel
    cases gk with
    | zero => exact absurd HA.out (by simp [laws_markByteS.l0])
    | succ k1 =>
      have H := HA.out
      clear HA
      simp only [laws_markByteS.l0] at H
      by_cases c3 : x5_1 < (x0_1.length : Int)
      · rw [if_pos c3] at H
        have c3b0 : decide (x5_1 < (x0_1.length : Int)) = true := decide_eq_true c3
        clear c3
        by_cases c4 : 0 ≤ x5_1
        · rw [if_pos c4] at H
          have c4b0 : decide (0 ≤ x5_1) = true := decide_eq_true c4
          clear c4
          obtain ⟨y178, hy178⟩ : ∃ y_ : List Int, y_ = (x0_1.set (x5_1 : Int).toNat ((x1_1) % 256)) := ⟨_, rfl⟩
          replace H : (laws_markByteS.l0 k1 y178 (wrap64 (x1_1 + 1)) (wrap64 (x5_1 + 1))) = some (r1, r2) := by first | (rw [hy178]; with_reducible exact H) | (have H2_ := (Option.bind_some _ _).symm.trans H; rw [hy178]; with_reducible exact H2_) | (have H2_ := (Option.bind_some _ _).symm.trans H; with_reducible exact H2_) | with_reducible exact H | (rw [hy178]; exact H) | exact H
          have Ny178 := Aside0.mk hy178
          clear hy178
          have H' := Aside0.mk H
          clear H
          obtain ⟨Ao6, co6, eo6⟩ := Kd.R_slice HO_0.out
          subst eo6
          have p5 : 0 ≤ (x5_1 : Int) := of_decide_eq_true (by first | (with_reducible assumption) | assumption)
          have q5 : (x5_1 : Int) < ((x0_1.length : Int) : Int) := of_decide_eq_true (by first | (with_reducible assumption) | assumption)
          obtain ⟨go5, co5, eo5, gb5, gl5, cl5, HG5⟩ := Kd.R_form HO_0.out (by omega)
          (first | cases eo5 | (injection eo5 with ea_ en_ ec_; (first | subst ea_ | (injection ea_ with ea_; subst ea_)); subst ec_; clear en_))
          have GB5 := Aside0.mk gb5
          have GG5 := Aside0.mk HG5
          clear gb5 gl5 HG5
          have HMgo5 := Aside0.mk (show (P0_ go5 ∨ w.heap.size ≤ go5) from (HO_0.out.1 _ rfl))
          obtain ⟨hx5_0, hf5_0⟩ := Kd.R_celln 0 HO_0.out (x5_1 : Int) p5 q5
          replace p5 := eq_true p5
          replace q5 := eq_true q5
          have HP7 := Kd.R_putg HO_0.out (x5_1 : Int) ((x1_1) % 256)
          go_wp2_with (first | ((with_reducible refine gate_store (t := 5) (p := 16) rfl ?_); refine store_event (t := 5) (p := 16) (v := ?vo_w8) (w1 := (wr.setCell ⟨go5, (x5_1 : Int).toNat, none⟩ (.int .u8 ((x1_1) % 256)))) ?hg ?ho ?hn ?hr ?_; (case ho => rfl); (case hg => rfl); (case hn => rfl); (case hr => first | (go_simp; done) | (go_simp; rfl)); intro w8 hw; have hg : wr.grownBy w8 (some go5) := (by rw [hw]; exact HP7.2); have hp_ : Kd.R (Kd.int .u8) 5 w8 w0.heap.size (fun k_ => (P0_ k_ ∨ w.heap.size ≤ k_)) (.slice (some ⟨go5, 0, none⟩) x0_1.length co6) y178 := (by rw [hw, Ny178.out]; exact HP7.1); clear HP7; have n0_ := Aside0.mk (hp_); have n1_ := Aside0.mk ((by rw [hw]; exact below_set (HB.out) GB5.out : Below w0.heap.size w0 w8)); have n2_ := Aside0.mk (Kept.of_grown (S := (fun k_ => P0_ k_)) hg (by repeat (first | (with_reducible first | exact HK.out | apply Kept.alloc | apply Kept.drewN | apply Kept.drew) | exact HK.out)) (fun k_ e_ => (HO_0.out.1 k_ e_))); clear HO_0; clear HB; clear HK; have HO_0 := n0_; have HB := n1_; have HK := n2_; clear n0_ n1_ n2_; clear hg hw hp_))
          go_roundg k1
          case measure => have := HK1.out; omega
          case rel => exact ⟨(y178), (wrap64 (x1_1 + 1)), (wrap64 (x5_1 + 1)), (by first | rfl | (simp; done) | (simp [*]; done)), (by first | rfl | (simp; done) | (simp [*]; done)), H', ⟨by have := HK1.out; omega⟩, ⟨by (with_reducible repeat (first | apply Kd.R_alloc | apply Kd.R_drewN | apply Kd.R_drew)); exact HO_0.out⟩, ⟨by repeat (first | (with_reducible first | exact HK.out | apply Kept.alloc | apply Kept.drewN | apply Kept.drew) | exact HK.out)⟩, ⟨by repeat (first | (with_reducible first | exact HB.out | apply below_alloc | apply pw_below_drewN | apply below_drew1) | exact HB.out)⟩⟩
        · rw [if_neg c4] at H
          exact absurd H (by simp)
      · rw [if_neg c3] at H
        have c3b0 : decide (x5_1 < (x0_1.length : Int)) = false := decide_eq_false c3
        clear c3
        simp only [Option.some.injEq, Prod.mk.injEq] at H
        obtain ⟨rfl, rfl⟩ := H
        obtain ⟨Ao9, co9, eo9⟩ := Kd.R_slice HO_0.out
        subst eo9
        go_wp2
        go_ret
        exact ⟨by first | rfl | (simp [errW_none, errW_some] <;> rfl) | (simp [*, errW_none, errW_some] <;> rfl), by (with_reducible repeat (first | apply Kd.R_alloc | apply Kd.R_drewN | apply Kd.R_drew)); exact HO_0.out, by repeat (first | (with_reducible first | exact HB.out | apply below_alloc | apply pw_below_drewN | apply below_drew1) | exact HB.out), by repeat (first | (with_reducible first | exact HK.out | apply Kept.alloc | apply Kept.drewN | apply Kept.drew) | exact HK.out)⟩

end Go.Proofs.Ytlopmffdebhpfaa.G

/-! ## G19 -/
namespace Go.Proofs.Ytlopmffdebhpfaa.G
open Go.RowKit Go.Proofs.YtlopmffdebhpfaaW.PrintWords Go.Proofs.YtlopmffdebhpfaaW.PrintLast Go.Proofs.YtlopmffdebhpfaaW.PrintMore
attribute [local go_sem] max2_int min2_int max_two min_two max_three min_three max_four min_four
set_option linter.unusedVariables false
set_option linter.unusedSimpArgs false

/-! ### laws_heldByteS: function 19 -/
def laws_heldByteS.l0 : Nat → List Int → Int → Int → Option (Int)
  | 0, _, _, _ => none
  | k + 1, x0, x1, x5 => if x5 < (x0.length : Int) then (if 0 ≤ x5 then (if (rd x0 x5) = ((x1) % 256) then (laws_heldByteS.l0 k x0 (wrap64 (x1 + 1)) (wrap64 (x5 + 1))) else (some (-1))) else (none)) else (some x1)
def laws_heldByteS.f (k : Nat) (l0 : List Int) (a1 : Int) : Option (Int) := laws_heldByteS.l0 k l0 a1 0
set_option maxHeartbeats 8000000 in
set_option maxRecDepth 100000 in
theorem laws_heldByteS.calls (k : Nat) (A0 : Option Addr) (c0 : Nat) (l0 : List Int) (a1 : Int) (r : Int) (w : World) (hr0 : Kd.C (Kd.int .u8) w A0 l0.length l0) (hc0 : l0.length ≤ c0) (h : laws_heldByteS.f k l0 a1 = some r) :
    Calls Try.prog 19 #[.slice A0 l0.length c0, .int .i64 a1] w fun e w' => e = .returned (.int .i64 r) ∧ Drawn0 w w' := by
  have HR0 := Aside0.mk hr0
  have HC0 := Aside0.mk hc0
  clear hr0 hc0
  have H : (laws_heldByteS.l0 k l0 a1 0) = some r := h
  clear h
  have H' := Aside0.mk H
  clear H
  go_enter Try.func19, Try.ntmps19
  go_wp2
  go_loopg [1, 5] k (fun kq v1 v5 w' => ∃ (x1_1 : Int) (x5_1 : Int), v1 = .int .i64 x1_1 ∧ v5 = .int .i64 x5_1 ∧ Aside0 (laws_heldByteS.l0 kq l0 x1_1 x5_1 = some r) ∧ Aside0 (kq ≤ k) ∧ Drawn0 w w')
  case atStart => exact ⟨(a1), (0), (by first | rfl | (simp; done) | (simp [*]; done)), (by first | rfl | (simp; done) | (simp [*]; done)), H', ⟨Nat.le_refl _⟩, by repeat (first | exact Drawn0.refl _ | apply Drawn0.step)⟩
  case round =>
    clear H'
    try clear c1
    try clear p2
    obtain ⟨x1_1, x5_1, rfl, rfl, HA, HK1, ⟨m1, rfl⟩⟩ := hrel
    cases gk with
    | zero => exact absurd HA.out (by simp [laws_heldByteS.l0])
    | succ k1 =>
      have H := HA.out
      clear HA
      simp only [laws_heldByteS.l0] at H
      by_cases c3 : x5_1 < (l0.length : Int)
      · rw [if_pos c3] at H
        have c3b0 : decide (x5_1 < (l0.length : Int)) = true := decide_eq_true c3
        clear c3
        by_cases c4 : 0 ≤ x5_1
        · rw [if_pos c4] at H
          have c4b0 : decide (0 ≤ x5_1) = true := decide_eq_true c4
          clear c4
          by_cases c5 : (rd l0 x5_1) = ((x1_1) % 256)
          · rw [if_pos c5] at H
            have c5b0 : ((rd l0 x5_1) == ((x1_1) % 256)) = true := beq_iff_eq.mpr c5
            have c5b1 : ((rd l0 x5_1) != ((x1_1) % 256)) = false := bne_eq_false_iff_eq.mpr c5
            clear c5
            have H' := Aside0.mk H
            clear H
            have p179 : 0 ≤ (x5_1 : Int) := of_decide_eq_true (by first | (with_reducible assumption) | assumption)
            have q179 : x5_1 < (l0.length : Int) := of_decide_eq_true (by first | (with_reducible assumption) | assumption)
            obtain ⟨ad179, e179, hx179_0⟩ := Kd.at_int HR0.out x5_1 p179 q179
            cases e179
            replace p179 := eq_true p179
            replace q179 := eq_true q179
            go_wp2
            go_roundg k1
            case measure => have := HK1.out; omega
            case rel => exact ⟨(wrap64 (x1_1 + 1)), (wrap64 (x5_1 + 1)), (by first | rfl | (simp; done) | (simp [*]; done)), (by first | rfl | (simp; done) | (simp [*]; done)), H', ⟨by have := HK1.out; omega⟩, by repeat (first | exact Drawn0.refl _ | apply Drawn0.step)⟩
          · rw [if_neg c5] at H
            have c5b0 : ((rd l0 x5_1) == ((x1_1) % 256)) = false := beq_eq_false_iff_ne.mpr c5
            have c5b1 : ((rd l0 x5_1) != ((x1_1) % 256)) = true := bne_iff_ne.mpr c5
            obtain rfl := Option.some.inj H
            have p179 : 0 ≤ (x5_1 : Int) := of_decide_eq_true (by first | (with_reducible assumption) | assumption)
            have q179 : x5_1 < (l0.length : Int) := of_decide_eq_true (by first | (with_reducible assumption) | assumption)
            obtain ⟨ad179, e179, hx179_0⟩ := Kd.at_int HR0.out x5_1 p179 q179
            cases e179
            replace p179 := eq_true p179
            replace q179 := eq_true q179
            go_wp2
            go_ret
            exact ⟨by first | rfl | (simp; done) | (simp [*]; done), by repeat (first | exact Drawn0.refl _ | apply Drawn0.step)⟩
        · rw [if_neg c4] at H
          exact absurd H (by simp)
      · rw [if_neg c3] at H
        have c3b0 : decide (x5_1 < (l0.length : Int)) = false := decide_eq_false c3
        clear c3
        obtain rfl := Option.some.inj H
        go_wp2
        go_ret
        exact ⟨by first | rfl | (simp; done) | (simp [*]; done), by repeat (first | exact Drawn0.refl _ | apply Drawn0.step)⟩

end Go.Proofs.Ytlopmffdebhpfaa.G

/-! ## Dec -/
namespace Go.Proofs.Ytlopmffdebhpfaa.Pure
open Go.RowKit Go.Proofs.Ytlopmffdebhpfaa.G Go.Proofs.YtlopmffdebhpfaaW.PrintWords Go.Proofs.YtlopmffdebhpfaaW.PrintLast Go.Proofs.YtlopmffdebhpfaaW.PrintMore

theorem eq_l0 (k : Nat) : ∀ (a b pa pb : List Int), pa.length = pb.length → a.length = b.length → (pa ++ a).length ≤ 9223372036854775806 →
    laws_eqByteS.l0 (k + a.length + 1) (pa ++ a) (pb ++ b) (pa.length : Int) = some (decide (a = b))
  | [], [], pa, pb, hp, hl, hm => by
    unfold laws_eqByteS.l0
    rw [if_neg (by simp)]
    simp
  | [], y :: b, pa, pb, hp, hl, hm => by simp at hl
  | x :: a, [], pa, pb, hp, hl, hm => by simp at hl
  | x :: a, y :: b, pa, pb, hp, hl, hm => by
    have h1 : (pa ++ x :: a).length = pa.length + a.length + 1 := by simp; omega
    have h2 : (pb ++ y :: b).length = pa.length + b.length + 1 := by simp; omega
    rw [show k + (x :: a).length + 1 = (k + a.length + 1) + 1 by simp; omega]
    conv => lhs; unfold laws_eqByteS.l0
    rw [if_pos (by omega), if_pos (by omega), if_pos (by omega), rd_mid]
    have e : rd (pb ++ y :: b) (pa.length : Int) = y := by rw [hp]; exact rd_mid _ _ _
    rw [e]
    by_cases hxy : x = y
    · rw [if_pos hxy, w64 (by omega) (by omega)]
      have ih := eq_l0 k a b (pa ++ [x]) (pb ++ [y]) (by simp [hp]) (by simpa using hl) (by simpa using hm)
      rw [List.append_assoc, List.append_assoc, List.singleton_append, List.singleton_append, show (((pa ++ [x]).length : Nat) : Int) = (pa.length : Int) + 1 by simp] at ih
      rw [ih]
      subst hxy
      simp
    · rw [if_neg hxy, decide_eq_false (by simp [hxy])]
theorem eqB {a b : List Int} (hm : a.length ≤ 9223372036854775806) : Cv (fun k => laws_eqByteS.f k a b) (decide (a = b)) := by
  unfold laws_eqByteS.f
  by_cases h : (a.length : Int) = (b.length : Int)
  · exact Cv.pos h (Cv.from (m := a.length + 1) (fun k => eq_l0 k a b [] [] rfl (by omega) (by simpa using hm)))
  · refine Cv.neg h (Cv.of ?_)
    rw [decide_eq_false (fun e => h (by rw [e]))]
theorem toB_l0 (k : Nat) : ∀ (r pre : List Int), (pre ++ r).length ≤ 9223372036854775806 →
    laws_toByteS.l0 (k + r.length + 1) (pre ++ r) (pre ++ List.replicate r.length 0) (pre.length : Int) = some (pre ++ r)
  | [], pre, hm => by
    unfold laws_toByteS.l0
    rw [if_neg (by simp)]
    simp
  | x :: r, pre, hm => by
    have h1 : (pre ++ x :: r).length = pre.length + r.length + 1 := by simp; omega
    have h2 : (pre ++ List.replicate (x :: r).length (0 : Int)).length = pre.length + r.length + 1 := by simp; omega
    rw [show k + (x :: r).length + 1 = (k + r.length + 1) + 1 by simp; omega]
    conv => lhs; unfold laws_toByteS.l0
    rw [if_pos (by omega), if_pos (by omega), if_pos (by omega), rd_mid, w64 (by omega) (by omega)]
    have e : (pre ++ List.replicate (x :: r).length (0 : Int)).set ((pre.length : Int)).toNat x = (pre ++ [x]) ++ List.replicate r.length 0 := by
      rw [Int.toNat_natCast, List.set_append_right _ _ (Nat.le_refl _), Nat.sub_self, List.length_cons, List.replicate_succ, List.set_cons_zero, List.append_assoc, List.singleton_append]
    rw [e]
    have ih := toB_l0 k r (pre ++ [x]) (by simpa using hm)
    rw [List.append_assoc, List.singleton_append, show (((pre ++ [x]).length : Nat) : Int) = (pre.length : Int) + 1 by simp] at ih
    rw [ih]
theorem toB {l : List Int} (hm : l.length ≤ 281474976710656) : Cv (fun k => laws_toByteS.f k l) l := by
  unfold laws_toByteS.f
  refine Cv.pos (by omega) (Cv.pos (by omega) (Cv.from (m := l.length + 1) (fun k => ?_)))
  have h := toB_l0 k l [] (by simp; omega)
  simpa [← Nat.add_assoc] using h
def marks : Nat → Int → List Int
  | 0, _ => []
  | n + 1, m => (m % 256) :: marks n (m + 1)
theorem marks_length : ∀ (n : Nat) (m : Int), (marks n m).length = n
  | 0, _ => rfl
  | n + 1, m => by simp [marks, marks_length n]
theorem mark_l0 (k : Nat) : ∀ (r pre : List Int) (m : Int), 0 ≤ m → m + r.length ≤ 9223372036854775806 → (pre ++ r).length ≤ 9223372036854775806 →
    laws_markByteS.l0 (k + r.length + 1) (pre ++ r) m (pre.length : Int) = some (m + r.length, pre ++ marks r.length m)
  | [], pre, m, h0, h1, hm => by
    unfold laws_markByteS.l0
    rw [if_neg (by simp)]
    simp [marks]
  | x :: r, pre, m, h0, h1, hm => by
    have h2 : (pre ++ x :: r).length = pre.length + r.length + 1 := by simp; omega
    have h3 : (x :: r).length = r.length + 1 := rfl
    rw [show k + (x :: r).length + 1 = (k + r.length + 1) + 1 by simp; omega]
    conv => lhs; unfold laws_markByteS.l0
    rw [if_pos (by omega), if_pos (by omega), w64 (n := m + 1) (by omega) (by omega), w64 (by omega) (by omega)]
    have e : (pre ++ x :: r).set ((pre.length : Int)).toNat (m % 256) = (pre ++ [m % 256]) ++ r := by
      rw [Int.toNat_natCast, List.set_append_right _ _ (Nat.le_refl _), Nat.sub_self, List.set_cons_zero, List.append_assoc, List.singleton_append]
    rw [e]
    have ih := mark_l0 k r (pre ++ [m % 256]) (m + 1) (by omega) (by omega) (by simpa using hm)
    rw [show (((pre ++ [m % 256]).length : Nat) : Int) = (pre.length : Int) + 1 by simp] at ih
    rw [ih, List.append_assoc, List.singleton_append]
    simp only [marks, List.length_cons]
    congr 2
    omega
theorem held_l0 (k : Nat) : ∀ (n : Nat) (pre : List Int) (m : Int), 0 ≤ m → m + n ≤ 9223372036854775806 → pre.length + n ≤ 9223372036854775806 →
    laws_heldByteS.l0 (k + n + 1) (pre ++ marks n m) m (pre.length : Int) = some (m + n)
  | 0, pre, m, h0, h1, hm => by
    unfold laws_heldByteS.l0
    rw [if_neg (by simp [marks])]
    simp
  | n + 1, pre, m, h0, h1, hm => by
    have h2 : (pre ++ marks (n + 1) m).length = pre.length + n + 1 := by simp [marks_length]; omega
    rw [show k + (n + 1) + 1 = (k + n + 1) + 1 by omega]
    conv => lhs; unfold laws_heldByteS.l0
    have e : rd (pre ++ marks (n + 1) m) (pre.length : Int) = m % 256 := rd_mid pre _ _
    rw [if_pos (by omega), if_pos (by omega), e, if_pos rfl, w64 (n := m + 1) (by omega) (by omega), w64 (by omega) (by omega)]
    have ih := held_l0 k n (pre ++ [m % 256]) (m + 1) (by omega) (by omega) (by simp; omega)
    rw [show (((pre ++ [m % 256]).length : Nat) : Int) = (pre.length : Int) + 1 by simp, List.append_assoc, List.singleton_append] at ih
    rw [show marks (n + 1) m = (m % 256) :: marks n (m + 1) from rfl, ih]
    congr 1
    omega
/-! ### reading -/
end Go.Proofs.Ytlopmffdebhpfaa.Pure

/-! ## Mark -/
namespace Go.Proofs.Ytlopmffdebhpfaa.G
open Go.RowKit Go.Proofs.YtlopmffdebhpfaaW.PrintWords Go.Proofs.YtlopmffdebhpfaaW.PrintLast Go.Proofs.YtlopmffdebhpfaaW.PrintMore
open Go.Proofs.Ytlopmffdebhpfaa.Pure (marks marks_length mark_l0 Cv)
set_option linter.unusedVariables false
set_option linter.unusedSimpArgs false
/-- The numbers in rows. -/
def totL : List (List Int) → Nat
  | [] => 0
  | l :: r => l.length + totL r
def mkSS : List (List Int) → Int → List (List Int)
  | [], _ => []
  | l :: r, m => marks l.length m :: mkSS r (m + l.length)
theorem totL_snoc : ∀ (a : List (List Int)) (l : List Int), totL (a ++ [l]) = totL a + l.length
  | [], l => by simp [totL]
  | x :: a, l => by
    have := totL_snoc a l
    simp only [List.cons_append, totL, this]
    omega
theorem mkSS_length : ∀ (a : List (List Int)) (m : Int), (mkSS a m).length = a.length
  | [], _ => rfl
  | x :: a, m => by simp [mkSS, mkSS_length a]
theorem mkSS_snoc : ∀ (a : List (List Int)) (l : List Int) (m : Int), mkSS (a ++ [l]) m = mkSS a m ++ [marks l.length (m + totL a)]
  | [], l, m => by simp [mkSS, totL]
  | x :: a, l, m => by
    simp only [List.cons_append, mkSS, mkSS_snoc a l, totL]
    congr 4
    omega
theorem totL_take_le (ls : List (List Int)) (n : Nat) : totL (ls.take n) ≤ totL ls := by
  induction ls generalizing n with
  | nil => simp
  | cons l r ih =>
    cases n with
    | zero => simp [totL]
    | succ n => simp only [List.take_succ_cons, totL]; have := ih n; omega
theorem take_snoc_getD {α : Type} (ls : List α) (z : α) (n : Nat) (h : n < ls.length) : ls.take (n + 1) = ls.take n ++ [ls.getD n z] := by
  rw [List.take_add_one, List.getElem?_eq_getElem h, List.getD_eq_getElem?_getD, List.getElem?_eq_getElem h]
  rfl
theorem cur_getD {α : Type} (a ls : List α) (z : α) (n : Nat) (ha : a.length = n) : (a ++ ls.drop n).getD n z = ls.getD n z := by
  rw [List.getD_eq_getElem?_getD, List.getElem?_append_right (by omega), List.getElem?_drop, List.getD_eq_getElem?_getD]
  congr 2
  omega
theorem cur_set {α : Type} (a ls : List α) (x : α) (n : Nat) (ha : a.length = n) (h : n < ls.length) : (a ++ ls.drop n).set n x = (a ++ [x]) ++ ls.drop (n + 1) := by
  rw [List.set_append_right _ _ (by omega), show n - a.length = 0 by omega, List.drop_eq_getElem_cons h, List.set_cons_zero, List.append_assoc, List.singleton_append]
theorem keptTrans {w W W2 : World} {P S : Nat → Prop} (h : Kept w W P) (h2 : Kept W W2 S) (hs : ∀ k, S k → P k) : Kept w W2 P :=
  ⟨Nat.le_trans h.1 h2.1, fun i hi hn => (h2.2 i (Nat.lt_of_lt_of_le hi h.1) (fun hk => hn (hs i hk))).trans (h.2 i hi hn)⟩
theorem markB_at {l : List Int} {m : Int} (h0 : 0 ≤ m) (h1 : m + l.length ≤ 9223372036854775806) : ∃ k, laws_markByteS.f k l m = some (m + l.length, marks l.length m) := by
  refine ⟨0 + l.length + 1, ?_⟩
  have h := mark_l0 0 l [] m h0 h1 (by simp; omega)
  unfold laws_markByteS.f
  exact h
set_option maxHeartbeats 4000000 in
set_option maxRecDepth 100000 in
theorem laws_markByteSS.calls (P : Nat → Prop) (v : Value) (ls : List (List Int)) (m : Int) (w0 w : World) (hB : Below w0.heap.size w0 w) (ho : Kd.S (Kd.slice 5 (Kd.int .u8)) 22 w w0.heap.size P v ls) (h0 : 0 ≤ m) (h1 : m + totL ls ≤ 4611686018427387904) :
    Calls Try.prog 93 #[v, .int .i64 m] w fun e w' => e = .returned (.int .i64 (m + totL ls)) ∧ Kd.S (Kd.slice 5 (Kd.int .u8)) 22 w' w0.heap.size P v (mkSS ls m) ∧ Below w0.heap.size w0 w' ∧ Kept w w' P := by
  obtain ⟨A, c, rfl⟩ := Kd.S_slice ho
  have HX : Aside0 (ls.length ≤ 9223372036854775807) := ⟨(Kd.S_reads' ho).2.2.2.1⟩
  have HS0 := Aside0.mk ho
  have HB0 := Aside0.mk hB
  have HM0 := Aside0.mk h0
  have HM1 := Aside0.mk h1
  clear ho hB h0 h1
  go_enter Try.func93, Try.ntmps93
  go_wp2_with fail
  go_loopg [1, 5] ls.length (fun gk v1 v5 w' => ∃ x : Int, v1 = .int .i64 (m + totL (ls.take x.toNat)) ∧ v5 = .int .i64 x ∧ Aside0 (0 ≤ x ∧ (gk : Int) + x = (ls.length : Int)) ∧ Aside0 (Kd.S (Kd.slice 5 (Kd.int .u8)) 22 w' w0.heap.size P (.slice A ls.length c) (mkSS (ls.take x.toNat) m ++ ls.drop x.toNat)) ∧ Aside0 (Below w0.heap.size w0 w') ∧ Aside0 (Kept w w' P))
  case atStart =>
    exact ⟨0, by simp [totL], rfl, ⟨by omega⟩, ⟨by simpa [mkSS] using HS0.out⟩, HB0, ⟨Kept.refl _ _⟩⟩
  case round =>
    clear HS0 HB0
    obtain ⟨x, rfl, rfl, HXK, HS, HB, HK⟩ := hrel
    cases gk with
    | zero =>
      have hx : x = (ls.length : Int) := by have := HXK.out; omega
      subst hx
      have c4b0 : decide ((ls.length : Int) < (ls.length : Int)) = false := decide_eq_false (by omega)
      have HS2 := HS.out
      rw [Int.toNat_natCast, List.take_length, List.drop_length, List.append_nil] at HS2
      go_wp2_with fail
      go_ret
      exact ⟨by first | rfl | (rw [Int.toNat_natCast, List.take_length]; rfl), HS2, HB.out, HK.out⟩
    | succ gk =>
      have p0 : 0 ≤ x := HXK.out.1
      have q0 : x < (ls.length : Int) := by have := HXK.out; omega
      have HP0 := Aside0.mk p0
      have HQ0 := Aside0.mk q0
      have hxl : x.toNat < ls.length := by omega
      have hml : (mkSS (ls.take x.toNat) m).length = x.toNat := by rw [mkSS_length, List.length_take]; omega
      have hpos : 0 < (mkSS (ls.take x.toNat) m ++ ls.drop x.toNat).length := by simp [mkSS_length]; omega
      obtain ⟨g, cap, ev, _⟩ := Kd.S_form HS.out hpos
      injection ev with ev1 ev2 ev3
      subst ev1
      subst ev3
      obtain ⟨oki, cc, _, hM, hcc, hoki, hH⟩ := Kd.S_lend HS.out ([] : List Int) x p0 q0
      obtain ⟨vi, rfl, hRi⟩ := hM
      rw [cur_getD _ _ _ _ hml] at hRi
      have hcell := hcc 0 vi rfl
      rw [show (Kd.slice 5 (Kd.int .u8)).sz = 1 from rfl, Nat.mul_one, Nat.add_zero] at hcell
      clear hcc
      have htot : totL (ls.take (x.toNat + 1)) = totL (ls.take x.toNat) + (ls.getD x.toNat []).length := by rw [take_snoc_getD ls [] _ hxl, totL_snoc]
      have hle := totL_take_le ls (x.toNat + 1)
      obtain ⟨k, hf⟩ := markB_at (l := ls.getD x.toNat []) (m := m + totL (ls.take x.toNat)) (by have := HM0.out; omega) (by have := HM1.out; omega)
      have hsn := take_snoc_getD ls [] _ hxl
      generalize ls.getD x.toNat [] = li at hRi htot hf hsn
      have HSN := Aside0.mk hsn
      have HF := Aside0.mk hf
      have HRI := Aside0.mk hRi
      have HH := Aside0.mk hH
      have HOK := Aside0.mk hoki
      have HTOT := Aside0.mk htot
      have HML := Aside0.mk hml
      have HXL := Aside0.mk hxl
      clear hsn hf hRi hH hoki htot hle hml hxl hpos ev2 HS
      have c4b0 : decide (x < (ls.length : Int)) = true := decide_eq_true q0
      have c4b1 : decide (0 ≤ x) = true := decide_eq_true p0
      replace p0 := eq_true p0
      replace q0 := eq_true q0
      go_wp2_with fail
      refine (laws_markByteS.calls k (fun k_ => some k_ = vi.ownBlock) vi li (m + totL (ls.take x.toNat)) _ _ w0 _ HB.out (Kd.R_tight rfl HRI.out) HF.out).mono ?_
      rintro e w2 ⟨rfl, hy, hb, hkp⟩
      have HS2 := Kd.H_back (Kd.H_step HH.out (fun k_ hk hn hlt => hkp.2 k_ hlt (fun e => hn (HRI.out.1 k_ e.symm)))) (x' := marks li.length (m + totL (ls.take x.toNat))) ⟨vi, rfl, Kd.R_reok rfl hy (fun k_ e_ => HRI.out.1 k_ e_)⟩ (fun _ hk => hk)
      rw [cur_set _ _ _ _ HML.out HXL.out] at HS2
      have HS3 := Aside0.mk HS2
      have HB3 := Aside0.mk hb
      have HK3 := Aside0.mk (keptTrans HK.out hkp (fun k_ hk => (HOK.out k_ (HRI.out.1 k_ hk.symm)).1))
      clear hy hb hkp HS2 HB HK HH HRI
      go_wp2_with fail
      go_roundg gk
      case measure => omega
      case rel =>
        have hw1 : wrap64 (x + 1) = x + 1 := by have := HP0.out; have := HQ0.out; have := HX.out; unfold wrap64; omega
        have ht1 : (x + 1).toNat = x.toNat + 1 := by have := HP0.out; omega
        refine ⟨x + 1, ?_, by first | rfl | (rw [hw1]), ⟨by have := HXK.out; omega⟩, ⟨?_⟩, HB3, HK3⟩
        · rw [ht1, HTOT.out]
          congr 1
          omega
        · rw [ht1, HSN.out, mkSS_snoc]
          exact HS3.out
def totP : List S185 → Nat
  | [] => 0
  | p :: r => (1 + p.f1.length) + totP r
def mkPS : List S185 → Int → List S185
  | [], _ => []
  | p :: r, m => ⟨m, marks p.f1.length (m + 1)⟩ :: mkPS r (m + ((1 + p.f1.length : Nat) : Int))
theorem totP_snoc : ∀ (a : List S185) (l : S185), totP (a ++ [l]) = totP a + (1 + l.f1.length)
  | [], l => by simp [totP]
  | x :: a, l => by
    have := totP_snoc a l
    simp only [List.cons_append, totP, this]
    omega
theorem mkPS_length : ∀ (a : List S185) (m : Int), (mkPS a m).length = a.length
  | [], _ => rfl
  | x :: a, m => by simp [mkPS, mkPS_length a]
theorem mkPS_snoc : ∀ (a : List S185) (l : S185) (m : Int), mkPS (a ++ [l]) m = mkPS a m ++ [⟨m + totP a, marks l.f1.length (m + totP a + 1)⟩]
  | [], l, m => by simp [mkPS, totP]
  | x :: a, l, m => by
    simp only [List.cons_append, mkPS, mkPS_snoc a l, totP]
    have e : m + ((1 + x.f1.length : Nat) : Int) + (totP a : Int) = m + (((1 + x.f1.length) + totP a : Nat) : Int) := by omega
    rw [e]
theorem totP_take_le (ls : List S185) (n : Nat) : totP (ls.take n) ≤ totP ls := by
  induction ls generalizing n with
  | nil => simp
  | cons l r ih =>
    cases n with
    | zero => simp [totP]
    | succ n => simp only [List.take_succ_cons, totP]; have := ih n; omega
set_option maxHeartbeats 4000000 in
set_option maxRecDepth 100000 in
theorem laws_markPendS.calls (P : Nat → Prop) (v : Value) (ls : List S185) (m : Int) (w0 w : World) (hB : Below w0.heap.size w0 w) (ho : Kd.S k185 185 w w0.heap.size P v ls) (h0 : 0 ≤ m) (h1 : m + totP ls ≤ 4611686018427387904) :
    Calls Try.prog 94 #[v, .int .i64 m] w fun e w' => e = .returned (.int .i64 (m + totP ls)) ∧ Kd.S k185 185 w' w0.heap.size P v (mkPS ls m) ∧ Below w0.heap.size w0 w' ∧ Kept w w' P := by
  have hu185 := Try.underlying185
  obtain ⟨A, c, rfl⟩ := Kd.S_slice ho
  have HX : Aside0 (ls.length ≤ 9223372036854775807) := ⟨(Kd.S_reads' ho).2.2.2.1⟩
  have HS0 := Aside0.mk ho
  have HB0 := Aside0.mk hB
  have HM0 := Aside0.mk h0
  have HM1 := Aside0.mk h1
  clear ho hB h0 h1
  go_enter Try.func94, Try.ntmps94
  go_wp2_with fail
  go_loopg [1, 5] ls.length (fun gk v1 v5 w' => ∃ x : Int, v1 = .int .i64 (m + totP (ls.take x.toNat)) ∧ v5 = .int .i64 x ∧ Aside0 (0 ≤ x ∧ (gk : Int) + x = (ls.length : Int)) ∧ Aside0 (Kd.S k185 185 w' w0.heap.size P (.slice A ls.length c) (mkPS (ls.take x.toNat) m ++ ls.drop x.toNat)) ∧ Aside0 (Below w0.heap.size w0 w') ∧ Aside0 (Kept w w' P))
  case atStart =>
    exact ⟨0, by simp [totP], rfl, ⟨by omega⟩, ⟨by simpa [mkPS] using HS0.out⟩, HB0, ⟨Kept.refl _ _⟩⟩
  case round =>
    clear HS0 HB0
    obtain ⟨x, rfl, rfl, HXK, HS, HB, HK⟩ := hrel
    cases gk with
    | zero =>
      have hx : x = (ls.length : Int) := by have := HXK.out; omega
      subst hx
      have c4b0 : decide ((ls.length : Int) < (ls.length : Int)) = false := decide_eq_false (by omega)
      have HS2 := HS.out
      rw [Int.toNat_natCast, List.take_length, List.drop_length, List.append_nil] at HS2
      go_wp2_with fail
      go_ret
      exact ⟨by first | rfl | (rw [Int.toNat_natCast, List.take_length]; rfl), HS2, HB.out, HK.out⟩
    | succ gk =>
      have p0 : 0 ≤ x := HXK.out.1
      have q0 : x < (ls.length : Int) := by have := HXK.out; omega
      have HP0 := Aside0.mk p0
      have HQ0 := Aside0.mk q0
      have hxl : x.toNat < ls.length := by omega
      have hml : (mkPS (ls.take x.toNat) m).length = x.toNat := by rw [mkPS_length, List.length_take]; omega
      have hpos : 0 < (mkPS (ls.take x.toNat) m ++ ls.drop x.toNat).length := by simp [mkPS_length]; omega
      obtain ⟨g, cap, ev, _⟩ := Kd.S_form HS.out hpos
      injection ev with ev1 ev2 ev3
      subst ev1
      subst ev3
      have HPG : Aside0 (P g) := ⟨(Kd.S_R HS.out).1 g (by simp [Value.ownBlock])⟩
      have HGW : Aside0 (w0.heap.size ≤ g) := ⟨Kd.S_base HS.out g (by simp [Value.ownBlock])⟩
      obtain ⟨oki, cc, _, hM, hcc, hoki, hH⟩ := Kd.S_lend HS.out z185 x p0 q0
      rw [cur_getD _ _ _ _ hml] at hM
      obtain ⟨vi, rfl, hRi⟩ := k185_openM hM
      have hcell0 := hcc 0 _ rfl
      have hfr0 : wr.frozen? ⟨g, x.toNat * 2, none⟩ = false := by
        obtain ⟨_, _, _, _, hfr⟩ := Kd.R_elem (Kd.S_R HS.out) z185 x p0 q0
        have := hfr 0
        simpa [show k185.sz = 2 from rfl] using this
      rw [show k185.sz = 2 from rfl, Nat.add_zero] at hcell0
      clear hcc
      have htot : totP (ls.take (x.toNat + 1)) = totP (ls.take x.toNat) + (1 + (ls.getD x.toNat z185).f1.length) := by rw [take_snoc_getD ls z185 _ hxl, totP_snoc]
      have hle := totP_take_le ls (x.toNat + 1)
      have hsn := take_snoc_getD ls z185 _ hxl
      generalize ls.getD x.toNat z185 = li at hRi htot hsn hcell0 hM hH
      obtain ⟨k, hf⟩ := markB_at (l := li.f1) (m := m + totP (ls.take x.toNat) + 1) (by have := HM0.out; omega) (by have := HM1.out; omega)
      have hcs := cur_set (mkPS (ls.take x.toNat) m) ls (⟨m + totP (ls.take x.toNat), li.f1⟩ : S185) x.toNat hml hxl
      have HWR : Aside0 (wrap64 (m + totP (ls.take x.toNat) + 1) = m + totP (ls.take x.toNat) + 1) := ⟨by have := HM0.out; have := HM1.out; unfold wrap64; omega⟩
      have HSN := Aside0.mk hsn
      have HF := Aside0.mk hf
      have HRI := Aside0.mk hRi
      have HH := Aside0.mk hH
      have HOK := Aside0.mk hoki
      have HTOT := Aside0.mk htot
      have HML := Aside0.mk hml
      have HXL := Aside0.mk hxl
      have HCS := Aside0.mk hcs
      clear hcs hsn hf hRi hH hoki htot hle hml hxl hpos ev2 HS hM
      have c4b0 : decide (x < (ls.length : Int)) = true := decide_eq_true q0
      have c4b1 : decide (0 ≤ x) = true := decide_eq_true p0
      replace p0 := eq_true p0
      replace q0 := eq_true q0
      generalize hmm : m + (totP (ls.take x.toNat) : Int) = mm at HF HWR HCS ⊢
      have HMM := Aside0.mk hmm
      clear hmm
      go_wp2_with (first | ((with_reducible refine gate_ (.store 3 (.tmp 16) (.tmp 14)) rfl ?_); refine Kd.H_store k185 w0.heap.size rfl rfl 3 (.tmp 16) (.tmp 14) rfl 185 x 0 (mkPS (ls.take x.toNat) m ++ ls.drop x.toNat) (⟨mm, li.f1⟩ : S185) (.int .i64 mm) [.int .i64 mm] [.int .i64 li.f0, vi] P oki oki rfl rfl rfl rfl (by kernel_rfl) (by simp [Value.oneCell']) HH.out HP0.out HQ0.out (Nat.le_of_ble_eq_true rfl) (k185_mkM _ _ _ _ HRI.out) (fun _ h => h) HB.out ?_; intro w1 hs1 hb1 hg1; rw [HCS.out] at hs1; have HS1 := Aside0.mk hs1; have HB1 := Aside0.mk hb1; have HK1 := Aside0.mk (keptTrans HK.out (Kept.of_grown hg1 (Kept.refl _ (fun k_ => k_ = g)) (fun k_ e_ => .inl (Option.some.inj e_).symm)) (fun k_ e_ => by rw [e_]; exact HPG.out)); clear hs1 hb1 hg1; obtain ⟨oki2, cc2, hcl2, hM2, hcc2, hoki2, hH2⟩ := Kd.S_lend HS1.out z185 x HP0.out HQ0.out; have hM3 := hM2; rw [show ((mkPS (ls.take x.toNat) m ++ [(⟨mm, li.f1⟩ : S185)]) ++ ls.drop (x.toNat + 1)).getD x.toNat z185 = ⟨mm, li.f1⟩ from by { rw [List.append_assoc, List.getD_eq_getElem?_getD, List.getElem?_append_right (Nat.le_of_eq HML.out), HML.out, Nat.sub_self]; rfl }] at hM3; obtain ⟨vj, ecc, hRj⟩ := k185_openM hM3; subst ecc; have hcell1 := hcc2 1 _ rfl; rw [show k185.sz = 2 from rfl] at hcell1; have HRJ := Aside0.mk hRj; have HH2 := Aside0.mk hH2; have HOK2 := Aside0.mk hoki2; clear hcl2 hM2 hcc2 hoki2 hH2 hM3 hRj))
      have hwr2 := HWR.out
      (try rw [hwr2])
      with_reducible refine (laws_markByteS.calls k (fun k_ => some k_ = vj.ownBlock) vj li.f1 (mm + 1) _ _ w0 _ HB1.out (Kd.R_tight rfl HRJ.out) HF.out).mono ?_
      rintro e w2 ⟨rfl, hy, hb, hkp⟩
      have HS2 := Kd.H_back (Kd.H_step HH2.out (fun k_ hk hn hlt => hkp.2 k_ hlt (fun e => hn (HRJ.out.1 k_ e.symm)))) (x' := (⟨mm, marks li.f1.length (mm + 1)⟩ : S185)) (k185_mkM _ _ _ _ (Kd.R_reok rfl hy (fun k_ e_ => HRJ.out.1 k_ e_))) (fun _ hk => hk)
      rw [List.append_assoc, List.set_append_right _ _ (Nat.le_of_eq HML.out), HML.out, Nat.sub_self, List.singleton_append, List.set_cons_zero] at HS2
      have HS3 := Aside0.mk HS2
      have HB3 := Aside0.mk hb
      have HK3 := Aside0.mk (keptTrans HK1.out hkp (fun k_ hk => (HOK2.out k_ (HRJ.out.1 k_ hk.symm)).1))
      clear hy hb hkp HS2 HB HK HH HRI HRJ HH2 HB1 HK1 HS1
      go_wp2_with fail
      go_roundg gk
      case measure => omega
      case rel =>
        have hw1 : wrap64 (x + 1) = x + 1 := by have := HP0.out; have := HQ0.out; have := HX.out; unfold wrap64; omega
        have ht1 : (x + 1).toNat = x.toNat + 1 := by have := HP0.out; omega
        refine ⟨x + 1, ?_, by first | rfl | (rw [hw1]), ⟨by have := HXK.out; omega⟩, ⟨?_⟩, HB3, HK3⟩
        · rw [ht1, HTOT.out, ← HMM.out]
          congr 1
          omega
        · rw [ht1, HSN.out, mkPS_snoc, HMM.out, List.append_assoc]
          exact HS3.out
end Go.Proofs.Ytlopmffdebhpfaa.G

/-! ## G85 -/
namespace Go.Proofs.Ytlopmffdebhpfaa.G
open Go.RowKit Go.Proofs.YtlopmffdebhpfaaW.PrintWords Go.Proofs.YtlopmffdebhpfaaW.PrintLast Go.Proofs.YtlopmffdebhpfaaW.PrintMore
attribute [local go_sem] max2_int min2_int max_two min_two max_three min_three max_four min_four
set_option linter.unusedVariables false
set_option linter.unusedSimpArgs false

/-! ### laws_toByteSS: function 85 -/
def laws_toByteSS.l0 : Nat → List (List Int) → List (List Int) → Int → Option ((List (List Int)))
  | 0, _, _, _ => none
  | k + 1, x0, x3, x4 => if x4 < (x0.length : Int) then (if 0 ≤ x4 then ((laws_toByteS.f k (rd_L2 x0 x4)).bind fun t373 => (if x4 < (x3.length : Int) then (laws_toByteSS.l0 k x0 (x3.set (x4 : Int).toNat t373) (wrap64 (x4 + 1))) else (none))) else (none)) else (some x3)
def laws_toByteSS.f (k : Nat) (l0 : List (List Int)) : Option ((List (List Int))) := if 0 ≤ (l0.length : Int) then (if ((l0.length : Int) : Int).toNat ≤ 11728124029610 then (laws_toByteSS.l0 k l0 (List.replicate ((l0.length : Int) : Int).toNat []) 0) else (none)) else (none)
set_option maxHeartbeats 8000000 in
set_option maxRecDepth 100000 in
theorem laws_toByteSS.calls (k : Nat) (A0 : Option Addr) (c0 : Nat) (l0 : List (List Int)) (r : List (List Int)) (w : World) (hr0 : Kd.C (Kd.slice 5 (Kd.int .u8)) w A0 l0.length l0) (hc0 : l0.length ≤ c0) (h : laws_toByteSS.f k l0 = some r) :
    Calls Try.prog 85 #[.slice A0 l0.length c0] w fun e w' => ∃ v0_ : Value, e = .returned (v0_) ∧ Kd.S (Kd.slice 5 (Kd.int .u8)) 22 w' w.heap.size (fun _ => True) v0_ r ∧ Below w.heap.size w w' := by
  have HR0 := Aside0.mk hr0
  have HC0 := Aside0.mk hc0
  clear hr0 hc0
  have HB := Aside0.mk (Below.refl w.heap.size w)
  have H : (if 0 ≤ (l0.length : Int) then (if ((l0.length : Int) : Int).toNat ≤ 11728124029610 then (laws_toByteSS.l0 k l0 (List.replicate ((l0.length : Int) : Int).toNat []) 0) else (none)) else (none)) = some r := h
  clear h
  by_cases c2 : 0 ≤ (l0.length : Int)
  · rw [if_pos c2] at H
    have c2b0 := eq_true c2
    have c2b1 : decide (0 ≤ (l0.length : Int)) = true := decide_eq_true c2
    clear c2
    by_cases c3 : ((l0.length : Int) : Int).toNat ≤ 11728124029610
    · rw [if_pos c3] at H
      have c3b0 := eq_true c3
      have c3b1 : decide (((l0.length : Int) : Int).toNat ≤ 11728124029610) = true := decide_eq_true c3
      clear c3
      obtain ⟨y369, hy369⟩ : ∃ y_ : List (List Int), y_ = (List.replicate ((l0.length : Int) : Int).toNat []) := ⟨_, rfl⟩
      replace H : (laws_toByteSS.l0 k l0 y369 0) = some r := by first | (rw [hy369]; with_reducible exact H) | (have H2_ := (Option.bind_some _ _).symm.trans H; rw [hy369]; with_reducible exact H2_) | (have H2_ := (Option.bind_some _ _).symm.trans H; with_reducible exact H2_) | with_reducible exact H | (rw [hy369]; exact H) | exact H
      have Ny369 := Aside0.mk hy369
      clear hy369
      have H' := Aside0.mk H
      clear H
      go_enter Try.func85, Try.ntmps85
      go_wp2_with (first | ((with_reducible refine gate_dst (N := 7) rfl ?_); refine Kd.S_make (Kd.slice 5 (Kd.int .u8)) _ 22 rfl (N := 7) rfl 36 _ _ rfl (l0.length : Int) rfl rfl Try.underlying36 (.slice none 0 0) 24 info22 rfl (by decide) (by omega) [] (ok := fun _ => True) (okp := fun _ => True) ⟨_, rfl, Kd.R_nil _ _ _ _ _⟩ (fun _ hk => hk) trivial (of_decide_eq_true (by first | (with_reducible assumption) | assumption)) (Nat.le_trans (Nat.mul_le_mul_right _ (of_decide_eq_true (by first | (with_reducible assumption) | assumption) : (l0.length : Int).toNat ≤ 11728124029610)) (by omega)) (Below.refl _ _) (Nat.le_refl _) ?_; intro v370 w4 ho5 hb hg_ hnew_; clear hg_ hnew_; (first | rw [← Ny369.out] at ho5 | (simp only [Int.reduceToNat] at ho5; rw [← Ny369.out] at ho5)); have n0_ := Aside0.mk (Kd.S_lower ho5 (below_size (by repeat (first | (with_reducible first | exact HB.out | apply below_alloc | apply pw_below_drewN | apply below_drew1) | exact HB.out)))); have n1_ := Aside0.mk (below_step (by repeat (first | (with_reducible first | exact HB.out | apply below_alloc | apply pw_below_drewN | apply below_drew1) | exact HB.out)) hb); clear HB; have HO371 := n0_; have HB := n1_; clear n0_ n1_; clear hb ho5))
      go_loopg [4] k (fun kq v4 w' => ∃ (x3_1 : List (List Int)) (x4_1 : Int), v4 = .int .i64 x4_1 ∧ Aside0 (laws_toByteSS.l0 kq l0 x3_1 x4_1 = some r) ∧ Aside0 (kq ≤ k) ∧ Aside0 (Kd.S (Kd.slice 5 (Kd.int .u8)) 22 w' w.heap.size (fun _ => True) v370 x3_1) ∧ Aside0 (Below w.heap.size w w'))
      case atStart => exact ⟨(y369), (0), (by first | rfl | (simp; done) | (simp [*]; done)), H', ⟨Nat.le_refl _⟩, ⟨by (with_reducible repeat (first | apply Kd.S_alloc | apply Kd.S_drewN | apply Kd.S_drew)); exact HO371.out⟩, ⟨by repeat (first | (with_reducible first | exact HB.out | apply below_alloc | apply pw_below_drewN | apply below_drew1) | exact HB.out)⟩⟩
      case round =>
        clear H'
        try clear c2
        try clear c2b0
        try clear c2b1
        try clear p2
        try clear c3
        try clear c3b0
        try clear c3b1
        obtain ⟨x3_1, x4_1, rfl, HA, HK1, HO_3, HB⟩ := hrel
        cases gk with
        | zero => exact absurd HA.out (by simp [laws_toByteSS.l0])
        | succ k1 =>
          have H := HA.out
          clear HA
          simp only [laws_toByteSS.l0] at H
          by_cases c6 : x4_1 < (l0.length : Int)
          · rw [if_pos c6] at H
            have c6b0 : decide (x4_1 < (l0.length : Int)) = true := decide_eq_true c6
            clear c6
            by_cases c7 : 0 ≤ x4_1
            · rw [if_pos c7] at H
              have c7b0 : decide (0 ≤ x4_1) = true := decide_eq_true c7
              clear c7
              replace H := Option.bind_eq_some_iff.mp H
              obtain ⟨t373, A80, H⟩ := H
              replace H : (if x4_1 < (x3_1.length : Int) then (laws_toByteSS.l0 k1 l0 (x3_1.set (x4_1 : Int).toNat t373) (wrap64 (x4_1 + 1))) else (none)) = some r := H
              have A8 := Aside0.mk A80
              clear A80
              by_cases c9 : x4_1 < (x3_1.length : Int)
              · rw [if_pos c9] at H
                have c9b0 : decide (x4_1 < (x3_1.length : Int)) = true := decide_eq_true c9
                clear c9
                obtain ⟨y376, hy376⟩ : ∃ y_ : List (List Int), y_ = (x3_1.set (x4_1 : Int).toNat t373) := ⟨_, rfl⟩
                replace H : (laws_toByteSS.l0 k1 l0 y376 (wrap64 (x4_1 + 1))) = some r := by first | (rw [hy376]; with_reducible exact H) | (have H2_ := (Option.bind_some _ _).symm.trans H; rw [hy376]; with_reducible exact H2_) | (have H2_ := (Option.bind_some _ _).symm.trans H; with_reducible exact H2_) | with_reducible exact H | (rw [hy376]; exact H) | exact H
                have Ny376 := Aside0.mk hy376
                clear hy376
                have H' := Aside0.mk H
                clear H
                have p372 : 0 ≤ (x4_1 : Int) := of_decide_eq_true (by first | (with_reducible assumption) | assumption)
                have q372 : x4_1 < (l0.length : Int) := of_decide_eq_true (by first | (with_reducible assumption) | assumption)
                obtain ⟨ad372, A372_0, c372_0, e372, hx372_0, hl372_0, hi372_0⟩ := at_L2 HR0.out x4_1 p372 q372
                cases e372
                replace hx372_0 := (HB.out.cell (World.block_lt_of_cell? w _ hx372_0)).trans hx372_0
                have HR372_0 := Aside0.mk hi372_0
                have HC372_0 := Aside0.mk hl372_0
                clear hi372_0 hl372_0
                replace p372 := eq_true p372
                replace q372 := eq_true q372
                go_wp2_with (first | ((with_reducible refine gate_callee (f := 15) rfl ?_); refine goesL_ (some 20) rfl rfl Try.func15 (by kernel_rfl) rfl #[.slice A372_0 (rd_L2 l0 x4_1).length c372_0] rfl (by (try simp only [List.map_toArray, List.map_cons, List.map_nil]); first | done | rfl | (simp only [List.length_drop, List.length_take]; rfl)) ?_; (with_reducible refine (laws_toByteS.calls k1 _ _ (rd_L2 l0 x4_1) t373 _ ?side1 ?side2 A8.out).mono ?_); (case side1 => repeat (first | exact (Kd.C_below HR372_0.out HB.out) | (with_reducible refine Kd.C_alloc ?_ _) | (with_reducible refine Kd.C_drewN ?_ _) | (with_reducible refine Kd.C_drew ?_))); (case side2 => exact HC372_0.out); rintro e w11 ⟨v374, rfl, ho0, hb⟩; refine ⟨_, rfl, ?_⟩; have n0_ := Aside0.mk (Kd.S_elder' (by (with_reducible repeat (first | apply Kd.S_alloc | apply Kd.S_drewN | apply Kd.S_drew)); exact HO_3.out) (Kd.R_base ho0) hb); have n1_ := Aside0.mk (Kd.R_lower ho0 (below_size (by repeat (first | (with_reducible first | exact HB.out | apply below_alloc | apply pw_below_drewN | apply below_drew1) | exact HB.out)))); have n2_ := Aside0.mk (below_step (by repeat (first | (with_reducible first | exact HB.out | apply below_alloc | apply pw_below_drewN | apply below_drew1) | exact HB.out)) hb); clear HO_3; clear HB; have HO_3 := n0_; have HO375 := n1_; have HB := n2_; clear n0_ n1_ n2_; (try clear hb); (try clear hb2); (try clear hk); (try clear hi); (try clear ho0); have p10 : 0 ≤ (x4_1 : Int) := of_decide_eq_true (by first | (with_reducible assumption) | assumption); have q10 : (x4_1 : Int) < ((x3_1.length : Int) : Int) := of_decide_eq_true (by first | (with_reducible assumption) | assumption); obtain ⟨go10, co10, eo10, gb10, gl10, cl10, HG10⟩ := Kd.S_form HO_3.out (by omega); (first | cases eo10 | (injection eo10 with ea_ en_ ec_; (first | subst ea_ | (injection ea_ with ea_; subst ea_)); subst ec_; clear en_)); have GB10 := Aside0.mk gb10; have GG10 := Aside0.mk HG10; clear gb10 gl10 HG10; obtain ⟨_, ce10, hcl10, hM10, hcc10, hfr10, _, _⟩ := Kd.S_elem HO_3.out [] (x4_1 : Int) p10 q10; obtain ⟨ve10_0, rfl, ge10_0⟩ := hM10; have hx10_0 := hcc10 0 _ rfl; have hf10_0 := hfr10 0; (try simp only [show ((Kd.slice 5 (Kd.int .u8))).sz = 1 from rfl, Nat.mul_one, Nat.add_zero] at hx10_0); (try simp only [show ((Kd.slice 5 (Kd.int .u8))).sz = 1 from rfl, Nat.mul_one, Nat.add_zero] at hf10_0); (try clear hcl10); (try clear hcc10); (try clear hfr10); (try clear hM10); replace p10 := eq_true p10; replace q10 := eq_true q10; have n_ := Aside0.mk (Kd.S_mono (ok' := (fun k_ => some k_ ≠ (v374 : Value).ownBlock)) HO_3.out (fun k_ hk => hk.2)); clear HO_3; have HO_3 := n_; clear n_; have HX12 := Aside0.mk (show Kd.S (Kd.slice 5 (Kd.int .u8)) 22 w11 w.heap.size (fun k_ => ((fun _ => True)) k_ ∧ ¬ ((fun k_ => some k_ = (v374 : Value).ownBlock)) k_) (.slice (some ⟨go10, 0, none⟩) x3_1.length co10) x3_1 from (by (with_reducible repeat (first | apply Kd.S_alloc | apply Kd.S_drewN | apply Kd.S_drew)); exact Kd.S_mono HO_3.out (fun k_ hk => ⟨trivial, fun e_ => hk e_⟩))); obtain ⟨oki12, ce12, hcl12, hM12, hcc12, hfr12, hoki12, hH12⟩ := Kd.S_elem HX12.out [] (x4_1 : Int) (of_decide_eq_true (by first | (with_reducible assumption) | assumption)) (by have h_ : (x4_1 : Int) < ((x3_1.length : Int) : Int) := of_decide_eq_true (by first | (with_reducible assumption) | assumption); first | exact h_ | (have e_ := (Kd.S_reads' HO_3.out).1; omega) | simpa using h_); obtain ⟨ve12_0, rfl, ge12_0⟩ := hM12; have HP12 := Kd.S_seg hH12 (of_decide_eq_true (by first | (with_reducible assumption) | assumption)) (by have h_ : (x4_1 : Int) < ((x3_1.length : Int) : Int) := of_decide_eq_true (by first | (with_reducible assumption) | assumption); first | exact h_ | (have e_ := (Kd.S_reads' HO_3.out).1; omega) | simpa using h_) (seg := [v374]) (j := 0) (show 1 ≤ 1 from by decide) (x' := t373) (Kd.M_row (Kd.R_mono (Kd.R_tight rfl (Kd.R_mono (ok' := fun k_ => ((fun _ => True)) k_ ∧ k_ ≠ go10) (Kd.R_apart' (HO375.out) (Kd.S_typed HO_3.out) (by decide)) (fun k_ hk => ⟨trivial, fun e_ => (hk.2) (by rw [e_]; rfl)⟩))) (fun _ h_ => Or.inr (h_)))) (fun _ hk => hk) (fun k_ hk_ => ((Kd.R_mono (ok' := fun k_ => ((fun _ => True)) k_ ∧ k_ ≠ go10) (Kd.R_apart' (HO375.out) (Kd.S_typed HO_3.out) (by decide)) (fun k_ hk => ⟨trivial, fun e_ => (hk.2) (by rw [e_]; rfl)⟩))).1 k_ hk_.symm); have hx12_0 := hcc12 0 _ rfl; (try simp only [show ((Kd.slice 5 (Kd.int .u8))).sz = 1 from rfl, Nat.mul_one, Nat.add_zero] at hx12_0); have hf12_0 := hfr12 0; (try simp only [show ((Kd.slice 5 (Kd.int .u8))).sz = 1 from rfl, Nat.mul_one, Nat.add_zero] at hf12_0); (try clear hcl12); (try clear hcc12); (try clear hfr12); (try clear hM12); (try clear hoki12); (try clear hH12); (try simp only [show ((Kd.slice 5 (Kd.int .u8))).sz = 1 from rfl, Nat.mul_one, Nat.add_zero] at HP12)) | ((with_reducible refine gate_store (t := 22) (p := 21) rfl ?_); refine store_event (t := 22) (p := 21) (v := ?vo_w13) (w1 := (w11.setCell ⟨go10, (x4_1 : Int).toNat, none⟩ (v374))) ?hg ?ho ?hn ?hr ?_; (case ho => rfl); (case hg => rfl); (case hn => rfl); (case hr => first | (go_simp; done) | (go_simp; rfl) | (obtain ⟨Aq_, cq_, eq_⟩ := Kd.R_slice HO375.out; subst eq_; first | (go_simp; done) | (go_simp; rfl))); intro w13 hw; have hg : w11.grownBy w13 (some go10) := (by rw [hw]; exact HP12.2); have hp_ : Kd.S (Kd.slice 5 (Kd.int .u8)) 22 w13 w.heap.size (fun _ => True) (.slice (some ⟨go10, 0, none⟩) x3_1.length co10) y376 := (by rw [hw, Ny376.out]; exact HP12.1); clear HP12; have n0_ := Aside0.mk (hp_); have n1_ := Aside0.mk ((by rw [hw]; exact below_set (HB.out) GB10.out : Below w.heap.size w w13)); clear HO_3; clear HB; clear HO375; have HO_3 := n0_; have HB := n1_; clear n0_ n1_; clear hg hw hp_))
                go_roundg k1
                case measure => have := HK1.out; omega
                case rel => exact ⟨(y376), (wrap64 (x4_1 + 1)), (by first | rfl | (simp; done) | (simp [*]; done)), H', ⟨by have := HK1.out; omega⟩, ⟨by (with_reducible repeat (first | apply Kd.S_alloc | apply Kd.S_drewN | apply Kd.S_drew)); exact HO_3.out⟩, ⟨by repeat (first | (with_reducible first | exact HB.out | apply below_alloc | apply pw_below_drewN | apply below_drew1) | exact HB.out)⟩⟩
              · rw [if_neg c9] at H
                exact absurd H (by simp)
            · rw [if_neg c7] at H
              exact absurd H (by simp)
          · rw [if_neg c6] at H
            have c6b0 : decide (x4_1 < (l0.length : Int)) = false := decide_eq_false c6
            clear c6
            obtain rfl := Option.some.inj H
            go_wp2
            go_ret
            exact ⟨_, by first | rfl | (simp [errW_none, errW_some] <;> rfl) | (simp [*, errW_none, errW_some] <;> rfl), by (with_reducible repeat (first | apply Kd.S_alloc | apply Kd.S_drewN | apply Kd.S_drew)); exact HO_3.out, by repeat (first | (with_reducible first | exact HB.out | apply below_alloc | apply pw_below_drewN | apply below_drew1) | exact HB.out)⟩
    · rw [if_neg c3] at H
      exact absurd H (by simp)
  · rw [if_neg c2] at H
    exact absurd H (by simp)

end Go.Proofs.Ytlopmffdebhpfaa.G

/-! ## G138 -/
namespace Go.Proofs.Ytlopmffdebhpfaa.G
open Go.RowKit Go.Proofs.YtlopmffdebhpfaaW.PrintWords Go.Proofs.YtlopmffdebhpfaaW.PrintLast Go.Proofs.YtlopmffdebhpfaaW.PrintMore
attribute [local go_sem] max2_int min2_int max_two min_two max_three min_three max_four min_four
set_option linter.unusedVariables false
set_option linter.unusedSimpArgs false

/-! ### laws_toPend: function 138 -/
def laws_toPend.f (k : Nat) (a0_0 : Int) (l0_1 : List Int) : Option (Int × List Int) := (laws_toByteS.f k l0_1).bind fun t380 => (some (a0_0, t380))
set_option maxHeartbeats 8000000 in
set_option maxRecDepth 100000 in
theorem laws_toPend.calls (k : Nat) (a0_0 : Int) (A0_1 : Option Addr) (c0_1 : Nat) (l0_1 : List Int) (r1 : Int) (r2 : List Int) (w : World) (hr0_1 : Kd.C (Kd.int .u8) w A0_1 l0_1.length l0_1) (hc0_1 : l0_1.length ≤ c0_1) (h : laws_toPend.f k a0_0 l0_1 = some (r1, r2)) :
    Calls Try.prog 138 #[.agg #[.int .i64 a0_0, .slice A0_1 l0_1.length c0_1]] w fun e w' => ∃ v1_ : Value, e = .returned (.agg #[.int .i64 r1, v1_]) ∧ Kd.R (Kd.int .u8) 5 w' w.heap.size (fun _ => True) v1_ r2 ∧ Below w.heap.size w w' := by
  have hu184 := Try.underlying184
  have hu185 := Try.underlying185
  have HR0_1 := Aside0.mk hr0_1
  have HC0_1 := Aside0.mk hc0_1
  clear hr0_1 hc0_1
  have HB := Aside0.mk (Below.refl w.heap.size w)
  have H : ((laws_toByteS.f k l0_1).bind fun t380 => (some (a0_0, t380))) = some (r1, r2) := h
  clear h
  replace H := Option.bind_eq_some_iff.mp H
  obtain ⟨t380, A20, H⟩ := H
  replace H : (some (a0_0, t380)) = some (r1, r2) := H
  have A2 := Aside0.mk A20
  clear A20
  simp only [Option.some.injEq, Prod.mk.injEq] at H
  obtain ⟨rfl, rfl⟩ := H
  go_enter Try.func138, Try.ntmps138
  go_wp2_with (first | ((with_reducible refine gate_dst (N := 1) rfl ?_); refine box_event ?hg (N := 1) ?hd (cs := #[.int .i64 a0_0, .slice A0_1 l0_1.length c0_1]) (t := 184) ?hr ?_; (case hd => rfl); (case hg => rfl); (case hr => first | (go_simp; done) | (go_simp; rfl)); intro gb377 hg w3 hbox hb; have n0_ := Aside0.mk (below_step (by repeat (first | (with_reducible first | exact HB.out | apply below_alloc | apply pw_below_drewN | apply below_drew1) | exact HB.out)) hb); have n1_ := Aside0.mk (hbox); have n2_ := Aside0.mk ((by rw [hg]; exact (below_size (by repeat (first | (with_reducible first | exact HB.out | apply below_alloc | apply pw_below_drewN | apply below_drew1) | exact HB.out))) : w.heap.size ≤ gb377)); have n3_ := Aside0.mk ((by rw [hg]; exact (below_size (by repeat (first | (with_reducible first | exact HB.out | apply below_alloc | apply pw_below_drewN | apply below_drew1) | exact HB.out))) : w.heap.size ≤ gb377)); clear HB; have HB := n0_; have BK377 := n1_; have GW377 := n2_; have GE377 := n3_; clear n0_ n1_ n2_ n3_; clear hb hbox hg) | ((with_reducible refine gate_dst (N := 2) rfl ?_); refine box_event ?hg (N := 2) ?hd (cs := #[.int .i64 0, .slice none 0 0]) (t := 185) ?hr ?_; (case hd => rfl); (case hg => rfl); (case hr => first | (go_simp; done) | (go_simp; rfl)); intro gb378 hg w4 hbox hb; have n0_ := Aside0.mk (blk_below (g := gb377) (o := .cells #[.int .i64 a0_0, .slice A0_1 l0_1.length c0_1] 184 (0, 0)) (by (with_reducible repeat (first | refine blk_drewN ?_ _ | refine blk_drew ?_ | refine blk_alloc ?_ _)); exact BK377.out) hb); have n1_ := Aside0.mk (below_step (by repeat (first | (with_reducible first | exact HB.out | apply below_alloc | apply pw_below_drewN | apply below_drew1 | refine below_set ?_ GE377.out) | exact HB.out)) hb); have n2_ := Aside0.mk (hbox); have n3_ := Aside0.mk ((by rw [hg]; exact (below_size (by repeat (first | (with_reducible first | exact HB.out | apply below_alloc | apply pw_below_drewN | apply below_drew1 | refine below_set ?_ GE377.out) | exact HB.out))) : w.heap.size ≤ gb378)); have n4_ := Aside0.mk ((by rw [hg]; exact (below_size (by repeat (first | (with_reducible first | exact HB.out | apply below_alloc | apply pw_below_drewN | apply below_drew1 | refine below_set ?_ GE377.out) | exact HB.out))) : w.heap.size ≤ gb378)); have n5_ := Aside0.mk ((by rw [hg]; exact Nat.ne_of_lt (blk_lt (g := gb377) (o := .cells #[.int .i64 a0_0, .slice A0_1 l0_1.length c0_1] 184 (0, 0)) (by (with_reducible repeat (first | refine blk_drewN ?_ _ | refine blk_drew ?_ | refine blk_alloc ?_ _)); exact BK377.out)) : gb377 ≠ gb378)); have n6_ := Aside0.mk ((by rw [hg]; exact Nat.ne_of_gt (blk_lt (g := gb377) (o := .cells #[.int .i64 a0_0, .slice A0_1 l0_1.length c0_1] 184 (0, 0)) (by (with_reducible repeat (first | refine blk_drewN ?_ _ | refine blk_drew ?_ | refine blk_alloc ?_ _)); exact BK377.out)) : gb378 ≠ gb377)); clear BK377; clear HB; have BK377 := n0_; have HB := n1_; have BK378 := n2_; have GW378 := n3_; have GE378 := n4_; have NB377_378 := n5_; have NB378_377 := n6_; clear n0_ n1_ n2_ n3_ n4_ n5_ n6_; clear hb hbox hg) | ((with_reducible refine gate_dst (N := 3) rfl ?_); refine box_event ?hg (N := 3) ?hd (cs := #[.int .i64 0, .slice none 0 0]) (t := 185) ?hr ?_; (case hd => rfl); (case hg => rfl); (case hr => first | (go_simp; done) | (go_simp; rfl)); intro gb379 hg w5 hbox hb; have n0_ := Aside0.mk (blk_below (g := gb377) (o := .cells #[.int .i64 a0_0, .slice A0_1 l0_1.length c0_1] 184 (0, 0)) (by (with_reducible repeat (first | refine blk_drewN ?_ _ | refine blk_drew ?_ | refine blk_alloc ?_ _)); exact BK377.out) hb); have n1_ := Aside0.mk (blk_below (g := gb378) (o := .cells #[.int .i64 0, .slice none 0 0] 185 (0, 0)) (by (with_reducible repeat (first | refine blk_drewN ?_ _ | refine blk_drew ?_ | refine blk_alloc ?_ _)); exact BK378.out) hb); have n2_ := Aside0.mk (below_step (by repeat (first | (with_reducible first | exact HB.out | apply below_alloc | apply pw_below_drewN | apply below_drew1 | refine below_set ?_ GE377.out | refine below_set ?_ GE378.out) | exact HB.out)) hb); have n3_ := Aside0.mk (hbox); have n4_ := Aside0.mk ((by rw [hg]; exact (below_size (by repeat (first | (with_reducible first | exact HB.out | apply below_alloc | apply pw_below_drewN | apply below_drew1 | refine below_set ?_ GE377.out | refine below_set ?_ GE378.out) | exact HB.out))) : w.heap.size ≤ gb379)); have n5_ := Aside0.mk ((by rw [hg]; exact (below_size (by repeat (first | (with_reducible first | exact HB.out | apply below_alloc | apply pw_below_drewN | apply below_drew1 | refine below_set ?_ GE377.out | refine below_set ?_ GE378.out) | exact HB.out))) : w.heap.size ≤ gb379)); have n6_ := Aside0.mk ((by rw [hg]; exact Nat.ne_of_lt (blk_lt (g := gb377) (o := .cells #[.int .i64 a0_0, .slice A0_1 l0_1.length c0_1] 184 (0, 0)) (by (with_reducible repeat (first | refine blk_drewN ?_ _ | refine blk_drew ?_ | refine blk_alloc ?_ _)); exact BK377.out)) : gb377 ≠ gb379)); have n7_ := Aside0.mk ((by rw [hg]; exact Nat.ne_of_gt (blk_lt (g := gb377) (o := .cells #[.int .i64 a0_0, .slice A0_1 l0_1.length c0_1] 184 (0, 0)) (by (with_reducible repeat (first | refine blk_drewN ?_ _ | refine blk_drew ?_ | refine blk_alloc ?_ _)); exact BK377.out)) : gb379 ≠ gb377)); have n8_ := Aside0.mk ((by rw [hg]; exact Nat.ne_of_lt (blk_lt (g := gb378) (o := .cells #[.int .i64 0, .slice none 0 0] 185 (0, 0)) (by (with_reducible repeat (first | refine blk_drewN ?_ _ | refine blk_drew ?_ | refine blk_alloc ?_ _)); exact BK378.out)) : gb378 ≠ gb379)); have n9_ := Aside0.mk ((by rw [hg]; exact Nat.ne_of_gt (blk_lt (g := gb378) (o := .cells #[.int .i64 0, .slice none 0 0] 185 (0, 0)) (by (with_reducible repeat (first | refine blk_drewN ?_ _ | refine blk_drew ?_ | refine blk_alloc ?_ _)); exact BK378.out)) : gb379 ≠ gb378)); clear BK377; clear BK378; clear HB; have BK377 := n0_; have BK378 := n1_; have HB := n2_; have BK379 := n3_; have GW379 := n4_; have GE379 := n5_; have NB377_379 := n6_; have NB379_377 := n7_; have NB378_379 := n8_; have NB379_378 := n9_; clear n0_ n1_ n2_ n3_ n4_ n5_ n6_ n7_ n8_ n9_; clear hb hbox hg; have hnb6 := NB377_378.out; have hnc6 := NB378_377.out; have hnb7 := NB377_379.out; have hnc7 := NB379_377.out; have hcz8_0 : w5.cell? ⟨gb377, 0, none⟩ = some (.int .i64 a0_0) := (blk_cell BK377.out 0).trans rfl; have hcz8_1 : w5.cell? ⟨gb377, 1, none⟩ = some (.slice A0_1 l0_1.length c0_1) := (blk_cell BK377.out 1).trans rfl; have hfz8_0 := blk_frozen BK377.out 0; have hfz8_1 := blk_frozen BK377.out 1; have hnb9 := NB379_378.out; have hnc9 := NB378_379.out; have hcz10_0 : w5.cell? ⟨gb379, 0, none⟩ = some (.int .i64 0) := (blk_cell BK379.out 0).trans rfl; have hcz10_1 : w5.cell? ⟨gb379, 1, none⟩ = some (.slice none 0 0) := (blk_cell BK379.out 1).trans rfl; have hfz10_0 := blk_frozen BK379.out 0; have hfz10_1 := blk_frozen BK379.out 1) | ((with_reducible refine gate_callee (f := 15) rfl ?_); refine goesL_ (some 9) rfl rfl Try.func15 (by kernel_rfl) rfl #[.slice A0_1 l0_1.length c0_1] rfl (by (try simp only [List.map_toArray, List.map_cons, List.map_nil]); first | done | rfl | (simp only [List.length_drop, List.length_take]; rfl)) ?_; (with_reducible refine (laws_toByteS.calls k _ _ l0_1 t380 _ ?side1 ?side2 A2.out).mono ?_); (case side1 => exact Kd.C_below HR0_1.out (by repeat (first | (with_reducible first | exact HB.out | apply below_alloc | apply pw_below_drewN | apply below_drew1 | refine below_set ?_ GE377.out | refine below_set ?_ GE378.out | refine below_set ?_ GE379.out) | exact HB.out))); (case side2 => exact HC0_1.out); rintro e w11 ⟨v381, rfl, ho0, hb⟩; refine ⟨_, rfl, ?_⟩; have n0_ := Aside0.mk (Kd.R_lower ho0 (below_size (by repeat (first | (with_reducible first | exact HB.out | apply below_alloc | apply pw_below_drewN | apply below_drew1 | refine below_set ?_ GE377.out | refine below_set ?_ GE378.out | refine below_set ?_ GE379.out) | exact HB.out)))); have n1_ := Aside0.mk (blk_below (g := gb377) (o := .cells #[.int .i64 a0_0, .slice A0_1 l0_1.length c0_1] 184 (0, 0)) (by (with_reducible repeat (first | refine blk_drewN ?_ _ | refine blk_drew ?_ | refine blk_alloc ?_ _)); refine blk_far ?_ NB377_379.out _; (with_reducible repeat (first | refine blk_drewN ?_ _ | refine blk_drew ?_ | refine blk_alloc ?_ _)); exact BK377.out) hb); have n2_ := Aside0.mk (blk_below (g := gb378) (o := .cells #[.int .i64 0, .slice none 0 0] 185 (0, 0)) (by (with_reducible repeat (first | refine blk_drewN ?_ _ | refine blk_drew ?_ | refine blk_alloc ?_ _)); refine blk_far ?_ NB378_379.out _; (with_reducible repeat (first | refine blk_drewN ?_ _ | refine blk_drew ?_ | refine blk_alloc ?_ _)); exact BK378.out) hb); have n3_ := Aside0.mk (blk_below (g := gb379) (o := .cells #[.int .i64 a0_0, .slice none 0 0] 185 (0, 0)) (by (with_reducible repeat (first | refine blk_drewN ?_ _ | refine blk_drew ?_ | refine blk_alloc ?_ _)); refine blk_put (cs := #[.int .i64 0, .slice none 0 0]) ?_ 0 _ rfl; (with_reducible repeat (first | refine blk_drewN ?_ _ | refine blk_drew ?_ | refine blk_alloc ?_ _)); exact BK379.out) hb); have n4_ := Aside0.mk (below_step (by repeat (first | (with_reducible first | exact HB.out | apply below_alloc | apply pw_below_drewN | apply below_drew1 | refine below_set ?_ GE377.out | refine below_set ?_ GE378.out | refine below_set ?_ GE379.out) | exact HB.out)) hb); clear BK377; clear BK378; clear BK379; clear HB; have HO382 := n0_; have BK377 := n1_; have BK378 := n2_; have BK379 := n3_; have HB := n4_; clear n0_ n1_ n2_ n3_ n4_; (try clear hb); (try clear hb2); (try clear hk); (try clear hi); (try clear ho0); obtain ⟨Ao12, co12, eo12⟩ := Kd.R_slice HO382.out; subst eo12; have hcz13_0 : w11.cell? ⟨gb379, 0, none⟩ = some (.int .i64 a0_0) := (blk_cell BK379.out 0).trans rfl; have hcz13_1 : w11.cell? ⟨gb379, 1, none⟩ = some (.slice none 0 0) := (blk_cell BK379.out 1).trans rfl; have hfz13_0 := blk_frozen BK379.out 0; have hfz13_1 := blk_frozen BK379.out 1; have hcz14_0 : w11.cell? ⟨gb378, 0, none⟩ = some (.int .i64 0) := (blk_cell BK378.out 0).trans rfl; have hcz14_1 : w11.cell? ⟨gb378, 1, none⟩ = some (.slice none 0 0) := (blk_cell BK378.out 1).trans rfl; have hfz14_0 := blk_frozen BK378.out 0; have hfz14_1 := blk_frozen BK378.out 1))
  refine bodyPost_ret (results_cell_row rfl _ _ gb378 185 #[.int .i64 a0_0, .slice Ao12 t380.length co12] (0, 0) _ rfl (by (with_reducible repeat (first | refine blk_drewN ?_ _ | refine blk_drew ?_ | refine blk_alloc ?_ _)); refine blk_put (cs := #[.int .i64 a0_0, .slice none 0 0]) ?_ 1 _ rfl; (with_reducible repeat (first | refine blk_drewN ?_ _ | refine blk_drew ?_ | refine blk_alloc ?_ _)); refine blk_put (cs := #[.int .i64 0, .slice none 0 0]) ?_ 0 _ rfl; (with_reducible repeat (first | refine blk_drewN ?_ _ | refine blk_drew ?_ | refine blk_alloc ?_ _)); refine blk_far ?_ NB378_379.out _; (with_reducible repeat (first | refine blk_drewN ?_ _ | refine blk_drew ?_ | refine blk_alloc ?_ _)); exact BK378.out) Try.underlying185 rfl (by kernel_rfl)) rfl ?_
  exact ⟨_, by first | rfl | (simp [errW_none, errW_some] <;> rfl) | (simp [*, errW_none, errW_some] <;> rfl), by (with_reducible repeat (first | apply Kd.R_alloc | apply Kd.R_drewN | apply Kd.R_drew)); exact Kd.R_mono (Kd.R_far (p := ⟨gb378, 1, none⟩) (Kd.R_far (p := ⟨gb378, 0, none⟩) (Kd.R_far (p := ⟨gb379, 1, none⟩) (Kd.R_types (Kd.R_types HO382.out BK379.out (by decide)) BK378.out (by decide)) (fun _ hk => hk.1.2) (.slice Ao12 t380.length co12)) (fun _ hk => hk.2) (.int .i64 a0_0)) (fun _ hk => hk.2) (.slice Ao12 t380.length co12)) (fun _ hk => trivial), by repeat (first | (with_reducible first | exact HB.out | apply below_alloc | apply pw_below_drewN | apply below_drew1 | refine below_set ?_ GE377.out | refine below_set ?_ GE378.out | refine below_set ?_ GE379.out) | exact HB.out)⟩

end Go.Proofs.Ytlopmffdebhpfaa.G

/-! ## G86 -/
namespace Go.Proofs.Ytlopmffdebhpfaa.G
open Go.RowKit Go.Proofs.YtlopmffdebhpfaaW.PrintWords Go.Proofs.YtlopmffdebhpfaaW.PrintLast Go.Proofs.YtlopmffdebhpfaaW.PrintMore
attribute [local go_sem] max2_int min2_int max_two min_two max_three min_three max_four min_four
set_option linter.unusedVariables false
set_option linter.unusedSimpArgs false

/-! ### laws_toPendS: function 86 -/
def laws_toPendS.l0 : Nat → List (S184) → List (S185) → Int → Option ((List (S185)))
  | 0, _, _, _ => none
  | k + 1, x0, x3, x4 => if x4 < (x0.length : Int) then (if 0 ≤ x4 then ((laws_toPend.f k ((rd_T184 x0 x4).f0) ((rd_T184 x0 x4).f1)).bind fun bt387 => (if x4 < (x3.length : Int) then (laws_toPendS.l0 k x0 (x3.set (x4 : Int).toNat (⟨bt387.1, bt387.2⟩ : S185)) (wrap64 (x4 + 1))) else (none))) else (none)) else (some x3)
def laws_toPendS.f (k : Nat) (l0 : List (S184)) : Option ((List (S185))) := if 0 ≤ (l0.length : Int) then (if ((l0.length : Int) : Int).toNat ≤ 8796093022208 then (laws_toPendS.l0 k l0 (List.replicate ((l0.length : Int) : Int).toNat z185) 0) else (none)) else (none)
set_option maxHeartbeats 8000000 in
set_option maxRecDepth 100000 in
theorem laws_toPendS.calls (k : Nat) (A0 : Option Addr) (c0 : Nat) (l0 : List (S184)) (r : List (S185)) (w : World) (hr0 : Kd.C k184 w A0 l0.length l0) (hc0 : l0.length ≤ c0) (h : laws_toPendS.f k l0 = some r) :
    Calls Try.prog 86 #[.slice A0 l0.length c0] w fun e w' => ∃ v0_ : Value, e = .returned (v0_) ∧ Kd.S k185 185 w' w.heap.size (fun _ => True) v0_ r ∧ Below w.heap.size w w' := by
  have hu184 := Try.underlying184
  have hu185 := Try.underlying185
  have HR0 := Aside0.mk hr0
  have HC0 := Aside0.mk hc0
  clear hr0 hc0
  have HB := Aside0.mk (Below.refl w.heap.size w)
  have H : (if 0 ≤ (l0.length : Int) then (if ((l0.length : Int) : Int).toNat ≤ 8796093022208 then (laws_toPendS.l0 k l0 (List.replicate ((l0.length : Int) : Int).toNat z185) 0) else (none)) else (none)) = some r := h
  clear h
  by_cases c2 : 0 ≤ (l0.length : Int)
  · rw [if_pos c2] at H
    have c2b0 := eq_true c2
    have c2b1 : decide (0 ≤ (l0.length : Int)) = true := decide_eq_true c2
    clear c2
    by_cases c3 : ((l0.length : Int) : Int).toNat ≤ 8796093022208
    · rw [if_pos c3] at H
      have c3b0 := eq_true c3
      have c3b1 : decide (((l0.length : Int) : Int).toNat ≤ 8796093022208) = true := decide_eq_true c3
      clear c3
      obtain ⟨y383, hy383⟩ : ∃ y_ : List (S185), y_ = (List.replicate ((l0.length : Int) : Int).toNat z185) := ⟨_, rfl⟩
      replace H : (laws_toPendS.l0 k l0 y383 0) = some r := by first | (rw [hy383]; with_reducible exact H) | (have H2_ := (Option.bind_some _ _).symm.trans H; rw [hy383]; with_reducible exact H2_) | (have H2_ := (Option.bind_some _ _).symm.trans H; with_reducible exact H2_) | with_reducible exact H | (rw [hy383]; exact H) | exact H
      have Ny383 := Aside0.mk hy383
      clear hy383
      have H' := Aside0.mk H
      clear H
      go_enter Try.func86, Try.ntmps86
      go_wp2_with (first | ((with_reducible refine gate_dst (N := 7) rfl ?_); refine Kd.S_make k185 _ 185 rfl (N := 7) rfl 42 _ _ rfl (l0.length : Int) rfl rfl Try.underlying42 (.agg #[(.int .i64 0), (.slice none 0 0)]) 32 info185 rfl (by decide) (by omega) z185 (ok := fun _ => True) (okp := fun _ => True) (k185_mkM _ _ _ z185 (Kd.R_nil _ _ _ _ _)) (fun _ hk => hk) trivial (of_decide_eq_true (by first | (with_reducible assumption) | assumption)) (Nat.le_trans (Nat.mul_le_mul_right _ (of_decide_eq_true (by first | (with_reducible assumption) | assumption) : (l0.length : Int).toNat ≤ 8796093022208)) (by omega)) (Below.refl _ _) (Nat.le_refl _) ?_; intro v384 w4 ho5 hb hg_ hnew_; clear hg_ hnew_; (first | rw [← Ny383.out] at ho5 | (simp only [Int.reduceToNat] at ho5; rw [← Ny383.out] at ho5)); have n0_ := Aside0.mk (Kd.S_lower ho5 (below_size (by repeat (first | (with_reducible first | exact HB.out | apply below_alloc | apply pw_below_drewN | apply below_drew1) | exact HB.out)))); have n1_ := Aside0.mk (below_step (by repeat (first | (with_reducible first | exact HB.out | apply below_alloc | apply pw_below_drewN | apply below_drew1) | exact HB.out)) hb); clear HB; have HO385 := n0_; have HB := n1_; clear n0_ n1_; clear hb ho5))
      go_loopg [4] k (fun kq v4 w' => ∃ (x3_1 : List (S185)) (x4_1 : Int), v4 = .int .i64 x4_1 ∧ Aside0 (laws_toPendS.l0 kq l0 x3_1 x4_1 = some r) ∧ Aside0 (kq ≤ k) ∧ Aside0 (Kd.S k185 185 w' w.heap.size (fun _ => True) v384 x3_1) ∧ Aside0 (Below w.heap.size w w'))
      case atStart => exact ⟨(y383), (0), (by first | rfl | (simp; done) | (simp [*]; done)), H', ⟨Nat.le_refl _⟩, ⟨by (with_reducible repeat (first | apply Kd.S_alloc | apply Kd.S_drewN | apply Kd.S_drew)); exact HO385.out⟩, ⟨by repeat (first | (with_reducible first | exact HB.out | apply below_alloc | apply pw_below_drewN | apply below_drew1) | exact HB.out)⟩⟩
      case round =>
        clear H'
        try clear c2
        try clear c2b0
        try clear c2b1
        try clear p2
        try clear c3
        try clear c3b0
        try clear c3b1
        obtain ⟨x3_1, x4_1, rfl, HA, HK1, HO_3, HB⟩ := hrel
        cases gk with
        | zero => exact absurd HA.out (by simp [laws_toPendS.l0])
        | succ k1 =>
          have H := HA.out
          clear HA
          simp only [laws_toPendS.l0] at H
          by_cases c6 : x4_1 < (l0.length : Int)
          · rw [if_pos c6] at H
            have c6b0 : decide (x4_1 < (l0.length : Int)) = true := decide_eq_true c6
            clear c6
            by_cases c7 : 0 ≤ x4_1
            · rw [if_pos c7] at H
              have c7b0 : decide (0 ≤ x4_1) = true := decide_eq_true c7
              clear c7
              replace H := Option.bind_eq_some_iff.mp H
              obtain ⟨⟨t387, t388⟩, A80, H⟩ := H
              replace H : (if x4_1 < (x3_1.length : Int) then (laws_toPendS.l0 k1 l0 (x3_1.set (x4_1 : Int).toNat (⟨t387, t388⟩ : S185)) (wrap64 (x4_1 + 1))) else (none)) = some r := H
              have A8 := Aside0.mk A80
              clear A80
              by_cases c9 : x4_1 < (x3_1.length : Int)
              · rw [if_pos c9] at H
                have c9b0 : decide (x4_1 < (x3_1.length : Int)) = true := decide_eq_true c9
                clear c9
                obtain ⟨y391, hy391⟩ : ∃ y_ : List (S185), y_ = (x3_1.set (x4_1 : Int).toNat (⟨t387, t388⟩ : S185)) := ⟨_, rfl⟩
                replace H : (laws_toPendS.l0 k1 l0 y391 (wrap64 (x4_1 + 1))) = some r := by first | (rw [hy391]; with_reducible exact H) | (have H2_ := (Option.bind_some _ _).symm.trans H; rw [hy391]; with_reducible exact H2_) | (have H2_ := (Option.bind_some _ _).symm.trans H; with_reducible exact H2_) | with_reducible exact H | (rw [hy391]; exact H) | exact H
                have Ny391 := Aside0.mk hy391
                clear hy391
                have H' := Aside0.mk H
                clear H
                have p386 : 0 ≤ (x4_1 : Int) := of_decide_eq_true (by first | (with_reducible assumption) | assumption)
                have q386 : x4_1 < (l0.length : Int) := of_decide_eq_true (by first | (with_reducible assumption) | assumption)
                obtain ⟨ad386, A386_1, c386_1, e386, hx386_0, hx386_1, hl386_1, hi386_1⟩ := at_T184 HR0.out x4_1 p386 q386
                cases e386
                replace hx386_0 := (HB.out.cell (World.block_lt_of_cell? w _ hx386_0)).trans hx386_0
                replace hx386_1 := (HB.out.cell (World.block_lt_of_cell? w _ hx386_1)).trans hx386_1
                have HR386_1 := Aside0.mk hi386_1
                have HC386_1 := Aside0.mk hl386_1
                clear hi386_1 hl386_1
                replace p386 := eq_true p386
                replace q386 := eq_true q386
                go_wp2_with (first | ((with_reducible refine gate_callee (f := 138) rfl ?_); refine goesL_ (some 20) rfl rfl Try.func138 (by kernel_rfl) rfl #[.agg #[.int .i64 ((rd_T184 l0 x4_1).f0), .slice A386_1 ((rd_T184 l0 x4_1).f1).length c386_1]] rfl (by (try simp only [List.map_toArray, List.map_cons, List.map_nil]); first | done | rfl | (simp only [List.length_drop, List.length_take]; rfl)) ?_; (with_reducible refine (laws_toPend.calls k1 ((rd_T184 l0 x4_1).f0) _ _ ((rd_T184 l0 x4_1).f1) t387 t388 _ ?side1 ?side2 A8.out).mono ?_); (case side1 => repeat (first | exact (Kd.C_below HR386_1.out HB.out) | (with_reducible refine Kd.C_alloc ?_ _) | (with_reducible refine Kd.C_drewN ?_ _) | (with_reducible refine Kd.C_drew ?_))); (case side2 => exact HC386_1.out); rintro e w11 ⟨v389, rfl, ho0, hb⟩; refine ⟨_, rfl, ?_⟩; have n0_ := Aside0.mk (Kd.S_elder' (by (with_reducible repeat (first | apply Kd.S_alloc | apply Kd.S_drewN | apply Kd.S_drew)); exact HO_3.out) (Kd.R_base ho0) hb); have n1_ := Aside0.mk (Kd.R_lower ho0 (below_size (by repeat (first | (with_reducible first | exact HB.out | apply below_alloc | apply pw_below_drewN | apply below_drew1) | exact HB.out)))); have n2_ := Aside0.mk (below_step (by repeat (first | (with_reducible first | exact HB.out | apply below_alloc | apply pw_below_drewN | apply below_drew1) | exact HB.out)) hb); clear HO_3; clear HB; have HO_3 := n0_; have HO390 := n1_; have HB := n2_; clear n0_ n1_ n2_; (try clear hb); (try clear hb2); (try clear hk); (try clear hi); (try clear ho0); have p10 : 0 ≤ (x4_1 : Int) := of_decide_eq_true (by first | (with_reducible assumption) | assumption); have q10 : (x4_1 : Int) < ((x3_1.length : Int) : Int) := of_decide_eq_true (by first | (with_reducible assumption) | assumption); obtain ⟨go10, co10, eo10, gb10, gl10, cl10, HG10⟩ := Kd.S_form HO_3.out (by omega); (first | cases eo10 | (injection eo10 with ea_ en_ ec_; (first | subst ea_ | (injection ea_ with ea_; subst ea_)); subst ec_; clear en_)); have GB10 := Aside0.mk gb10; have GG10 := Aside0.mk HG10; clear gb10 gl10 HG10; obtain ⟨_, ce10, hcl10, hM10, hcc10, hfr10, _, _⟩ := Kd.S_elem HO_3.out z185 (x4_1 : Int) p10 q10; obtain ⟨ve10_1, rfl, ge10_1⟩ := k185_openM hM10; have hx10_0 : w11.cell? ⟨go10, (x4_1 : Int).toNat * 2, none⟩ = some (.int .i64 ((rd_T185 x3_1 x4_1).f0)) := hcc10 0 _ rfl; have hx10_1 : w11.cell? ⟨go10, (x4_1 : Int).toNat * 2 + 1, none⟩ = some (ve10_1) := hcc10 1 _ rfl; have hf10_0 : w11.frozen? ⟨go10, (x4_1 : Int).toNat * 2, none⟩ = false := hfr10 0; have hf10_1 : w11.frozen? ⟨go10, (x4_1 : Int).toNat * 2 + 1, none⟩ = false := hfr10 1; (try clear hcl10); (try clear hcc10); (try clear hfr10); (try clear hM10); replace p10 := eq_true p10; replace q10 := eq_true q10; have n_ := Aside0.mk (Kd.S_mono (ok' := (fun k_ => some k_ ≠ (v389 : Value).ownBlock)) HO_3.out (fun k_ hk => hk.2)); clear HO_3; have HO_3 := n_; clear n_; have HX12 := Aside0.mk (show Kd.S k185 185 w11 w.heap.size (fun k_ => ((fun _ => True)) k_ ∧ ¬ ((fun k_ => some k_ = (v389 : Value).ownBlock)) k_) (.slice (some ⟨go10, 0, none⟩) x3_1.length co10) x3_1 from (by (with_reducible repeat (first | apply Kd.S_alloc | apply Kd.S_drewN | apply Kd.S_drew)); exact Kd.S_mono HO_3.out (fun k_ hk => ⟨trivial, fun e_ => hk e_⟩))); obtain ⟨oki12, ce12, hcl12, hM12, hcc12, hfr12, hoki12, hH12⟩ := Kd.S_elem HX12.out z185 (x4_1 : Int) (of_decide_eq_true (by first | (with_reducible assumption) | assumption)) (by have h_ : (x4_1 : Int) < ((x3_1.length : Int) : Int) := of_decide_eq_true (by first | (with_reducible assumption) | assumption); first | exact h_ | (have e_ := (Kd.S_reads' HO_3.out).1; omega) | simpa using h_); obtain ⟨ve12_1, rfl, ge12_1⟩ := k185_openM hM12; have HP12 := Kd.S_seg hH12 (of_decide_eq_true (by first | (with_reducible assumption) | assumption)) (by have h_ : (x4_1 : Int) < ((x3_1.length : Int) : Int) := of_decide_eq_true (by first | (with_reducible assumption) | assumption); first | exact h_ | (have e_ := (Kd.S_reads' HO_3.out).1; omega) | simpa using h_) (seg := [.int .i64 t387, v389]) (j := 0) (show 2 ≤ 2 from by decide) (x' := (⟨t387, t388⟩ : S185)) (k185_mkM _ _ _ (⟨t387, t388⟩ : S185) (Kd.R_mono (Kd.R_tight rfl (Kd.R_mono (ok' := fun k_ => ((fun _ => True)) k_ ∧ k_ ≠ go10) (Kd.R_apart' (HO390.out) (Kd.S_typed HO_3.out) (by decide)) (fun k_ hk => ⟨trivial, fun e_ => (hk.2) (by rw [e_]; rfl)⟩))) (fun _ h_ => Or.inr (h_)))) (fun _ hk => hk) (fun k_ hk_ => ((Kd.R_mono (ok' := fun k_ => ((fun _ => True)) k_ ∧ k_ ≠ go10) (Kd.R_apart' (HO390.out) (Kd.S_typed HO_3.out) (by decide)) (fun k_ hk => ⟨trivial, fun e_ => (hk.2) (by rw [e_]; rfl)⟩))).1 k_ hk_.symm); have hx12_0 := hcc12 0 _ rfl; (try simp only [show (k185).sz = 2 from rfl, Nat.mul_one, Nat.add_zero] at hx12_0); have hf12_0 := hfr12 0; (try simp only [show (k185).sz = 2 from rfl, Nat.mul_one, Nat.add_zero] at hf12_0); have hx12_1 := hcc12 1 _ rfl; (try simp only [show (k185).sz = 2 from rfl, Nat.mul_one, Nat.add_zero] at hx12_1); have hf12_1 := hfr12 1; (try simp only [show (k185).sz = 2 from rfl, Nat.mul_one, Nat.add_zero] at hf12_1); (try clear hcl12); (try clear hcc12); (try clear hfr12); (try clear hM12); (try clear hoki12); (try clear hH12)) | ((with_reducible refine gate_store (t := 185) (p := 21) rfl ?_); refine store_event (t := 185) (p := 21) (v := ?vo_w13) (w1 := ((w11.setCell ⟨go10, (x4_1 : Int).toNat * 2, none⟩ (.int .i64 t387)).setCell ⟨go10, (x4_1 : Int).toNat * 2 + 1, none⟩ (v389))) ?hg ?ho ?hn ?hr ?_; (case ho => rfl); (case hg => rfl); (case hn => rfl); (case hr => first | (go_simp; done) | (go_simp; rfl) | (obtain ⟨Aq_, cq_, eq_⟩ := Kd.R_slice HO390.out; subst eq_; first | (go_simp; done) | (go_simp; rfl))); intro w13 hw; have hg : w11.grownBy w13 (some go10) := (by rw [hw]; exact HP12.2); have hp_ : Kd.S k185 185 w13 w.heap.size (fun _ => True) (.slice (some ⟨go10, 0, none⟩) x3_1.length co10) y391 := (by rw [hw, Ny391.out]; exact HP12.1); clear HP12; have n0_ := Aside0.mk (hp_); have n1_ := Aside0.mk ((by rw [hw]; exact below_set (below_set (HB.out) GB10.out) GB10.out : Below w.heap.size w w13)); clear HO_3; clear HB; clear HO390; have HO_3 := n0_; have HB := n1_; clear n0_ n1_; clear hg hw hp_))
                go_roundg k1
                case measure => have := HK1.out; omega
                case rel => exact ⟨(y391), (wrap64 (x4_1 + 1)), (by first | rfl | (simp; done) | (simp [*]; done)), H', ⟨by have := HK1.out; omega⟩, ⟨by (with_reducible repeat (first | apply Kd.S_alloc | apply Kd.S_drewN | apply Kd.S_drew)); exact HO_3.out⟩, ⟨by repeat (first | (with_reducible first | exact HB.out | apply below_alloc | apply pw_below_drewN | apply below_drew1) | exact HB.out)⟩⟩
              · rw [if_neg c9] at H
                exact absurd H (by simp)
            · rw [if_neg c7] at H
              exact absurd H (by simp)
          · rw [if_neg c6] at H
            have c6b0 : decide (x4_1 < (l0.length : Int)) = false := decide_eq_false c6
            clear c6
            obtain rfl := Option.some.inj H
            go_wp2
            go_ret
            exact ⟨_, by first | rfl | (simp [errW_none, errW_some] <;> rfl) | (simp [*, errW_none, errW_some] <;> rfl), by (with_reducible repeat (first | apply Kd.S_alloc | apply Kd.S_drewN | apply Kd.S_drew)); exact HO_3.out, by repeat (first | (with_reducible first | exact HB.out | apply below_alloc | apply pw_below_drewN | apply below_drew1) | exact HB.out)⟩
    · rw [if_neg c3] at H
      exact absurd H (by simp)
  · rw [if_neg c2] at H
    exact absurd H (by simp)

end Go.Proofs.Ytlopmffdebhpfaa.G

/-! ## G26 -/
namespace Go.Proofs.Ytlopmffdebhpfaa.G
open Go.RowKit Go.Proofs.YtlopmffdebhpfaaW.PrintWords Go.Proofs.YtlopmffdebhpfaaW.PrintLast Go.Proofs.YtlopmffdebhpfaaW.PrintMore
attribute [local go_sem] max2_int min2_int max_two min_two max_three min_three max_four min_four
set_option linter.unusedVariables false
set_option linter.unusedSimpArgs false

/-! ### laws_toDisk: function 26 -/
def laws_toDisk.f (k : Nat) (l0_0 : List (List Int)) (l0_1 : List (S184)) : Option ((List (List Int)) × (List (S185))) := (laws_toByteSS.f k l0_0).bind fun t395 => ((laws_toPendS.f k l0_1).bind fun t398 => (some (t395, t398)))
end Go.Proofs.Ytlopmffdebhpfaa.G

/-! ## ToDisk -/
namespace Go.Proofs.Ytlopmffdebhpfaa.G
open Go.RowKit Go.Proofs.YtlopmffdebhpfaaW.PrintWords Go.Proofs.YtlopmffdebhpfaaW.PrintLast Go.Proofs.YtlopmffdebhpfaaW.PrintMore
set_option linter.unusedVariables false
set_option linter.unusedSimpArgs false

/-- A disk of the call's own: its sectors' rows and its pending writes' rows lie in blocks of their own, apart. -/
def IsDisk (w : World) (base : Nat) (P Q : Nat → Prop) (v0 v1 : Value) (r1 : List (List Int)) (r2 : List S185) : Prop :=
  (∀ k, P k → ¬ Q k) ∧ Kd.S (Kd.slice 5 (Kd.int .u8)) 22 w base P v0 r1 ∧ Kd.S k185 185 w base Q v1 r2
theorem IsDisk_below {w w1 : World} {base : Nat} {P Q : Nat → Prop} {v0 v1 : Value} {r1 : List (List Int)} {r2 : List S185} (h : IsDisk w base P Q v0 v1 r1 r2) (hb : Below w.heap.size w w1) : IsDisk w1 base P Q v0 v1 r1 r2 := ⟨h.1, Kd.S_below h.2.1 hb, Kd.S_below h.2.2 hb⟩
set_option maxHeartbeats 4000000 in
set_option maxRecDepth 100000 in
theorem laws_toDisk.apart (k : Nat) (A0 : Option Addr) (c0 : Nat) (l0 : List (List Int)) (A1 : Option Addr) (c1 : Nat) (l1 : List S184) (r1 : List (List Int)) (r2 : List S185) (w : World) (hr0 : Kd.C (Kd.slice 5 (Kd.int .u8)) w A0 l0.length l0) (hc0 : l0.length ≤ c0) (hr1 : Kd.C k184 w A1 l1.length l1) (hc1 : l1.length ≤ c1) (h : laws_toDisk.f k l0 l1 = some (r1, r2)) :
    Calls Try.prog 26 #[.agg #[.slice A0 l0.length c0, .slice A1 l1.length c1]] w fun e w' => ∃ v0 v1 : Value, ∃ P Q, e = .returned (.agg #[v0, v1]) ∧ IsDisk w' w.heap.size P Q v0 v1 r1 r2 ∧ Below w.heap.size w w' := by
  have hu44 := Try.underlying44
  have hu39 := Try.underlying39
  have HR0 := Aside0.mk hr0
  have HR1 := Aside0.mk hr1
  have HC0 := Aside0.mk hc0
  have HC1 := Aside0.mk hc1
  clear hr0 hr1 hc0 hc1
  unfold laws_toDisk.f at h
  obtain ⟨s1, H1, h⟩ := Option.bind_eq_some_iff.mp h
  obtain ⟨s2, H2, h⟩ := Option.bind_eq_some_iff.mp h
  simp only [Option.some.injEq, Prod.mk.injEq] at h
  obtain ⟨rfl, rfl⟩ := h
  have N1 := Aside0.mk H1
  have N2 := Aside0.mk H2
  clear H1 H2
  go_enter Try.func26, Try.ntmps26
  go_wp2_with (first | ((with_reducible refine gate_dst (N := 1) rfl ?_); refine box_event ?hg (N := 1) ?hd (cs := #[.slice A0 l0.length c0, .slice A1 l1.length c1]) (t := 39) ?hr ?_; (case hd => rfl); (case hg => rfl); (case hr => first | (go_simp; done) | (go_simp; rfl)); intro gp hgr w1 hbox hbel; have BP1 := Aside0.mk hbox; have HB1 := Aside0.mk hbel; have hp0 : w1.cell? ⟨gp, 0, none⟩ = some (.slice A0 l0.length c0) := (blk_cell hbox 0).trans rfl; have hp1 : w1.cell? ⟨gp, 1, none⟩ = some (.slice A1 l1.length c1) := (blk_cell hbox 1).trans rfl; clear hbox hbel hgr) | ((with_reducible refine gate_dst (N := 2) rfl ?_); refine box_event ?hg (N := 2) ?hd (cs := #[.slice none 0 0, .slice none 0 0]) (t := 44) ?hr ?_; (case hd => rfl); (case hg => rfl); (case hr => first | (go_simp; done) | (go_simp; rfl)); intro gr hgr w2 hbox hbel; have BR2 := Aside0.mk hbox; have BP2 := Aside0.mk (blk_below BP1.out hbel); have HB2 := Aside0.mk (below_step HB1.out hbel); have GR : Aside0 (w.heap.size ≤ gr) := ⟨by rw [hgr]; exact HB1.out.size⟩; have hp0 : w2.cell? ⟨gp, 0, none⟩ = some (.slice A0 l0.length c0) := (blk_cell BP2.out 0).trans rfl; clear hbox hbel hgr) | ((with_reducible refine gate_dst (N := 3) rfl ?_); refine box_event ?hg (N := 3) ?hd (cs := #[.slice none 0 0, .slice none 0 0]) (t := 44) ?hr ?_; (case hd => rfl); (case hg => rfl); (case hr => first | (go_simp; done) | (go_simp; rfl)); intro go hgr w3 hbox hbel; have BO3 := Aside0.mk hbox; have BR3 := Aside0.mk (blk_below BR2.out hbel); have BP3 := Aside0.mk (blk_below BP2.out hbel); have HB3 := Aside0.mk (below_step HB2.out hbel); have GO : Aside0 (w.heap.size ≤ go) := ⟨by rw [hgr]; exact HB2.out.size⟩; have NPO : Aside0 (gp ≠ go) := ⟨by have := blk_lt BP2.out; omega⟩; have NRO : Aside0 (gr ≠ go) := ⟨by have := blk_lt BR2.out; omega⟩; have hp0 : w3.cell? ⟨gp, 0, none⟩ = some (.slice A0 l0.length c0) := (blk_cell BP3.out 0).trans rfl; have hp1 : w3.cell? ⟨gp, 1, none⟩ = some (.slice A1 l1.length c1) := (blk_cell BP3.out 1).trans rfl; clear hbox hbel hgr))
  refine (laws_toByteSS.calls k A0 c0 l0 s1 _ (Kd.C_below HR0.out HB3.out) HC0.out N1.out).mono ?_
  rintro e w4 ⟨v4, rfl, ho4, hb4⟩
  have HO4 := Aside0.mk (Kd.S_lower ho4 HB3.out.size)
  have HB4 := Aside0.mk (below_step HB3.out hb4)
  have BP4 := Aside0.mk (blk_below BP3.out hb4)
  have BR4 := Aside0.mk (blk_below BR3.out hb4)
  have BO4 := Aside0.mk (blk_below BO3.out hb4)
  have HTY4 := Aside0.mk (Kd.S_new' ho4 (u := .slice (some ⟨gp, 0, none⟩) 0 0) (by intro q hq; simp [Value.ownBlock] at hq; subst hq; exact blk_lt BP3.out))
  clear ho4 hb4 HB3 BP3 BR3 BO3 hp0 hp1 HTY4
  obtain ⟨A4, c4, ev4⟩ := Kd.S_slice HO4.out
  subst ev4
  go_wp2_with (first | ((with_reducible refine gate_ (.store 36 (.tmp 7) (.tmp 6)) rfl ?_); refine store_blk rfl rfl 36 (.tmp 7) (.tmp 6) rfl (off := 0) (u := .slice A4 s1.length c4) #[.slice A4 s1.length c4, .slice none 0 0] rfl rfl BO4.out [.slice A4 s1.length c4] rfl (by kernel_rfl) (Nat.le_of_ble_eq_true rfl) rfl rfl ?_; intro w5 hblk hgrw; have BO5 := Aside0.mk hblk; have BP5 := Aside0.mk (blk_grown BP4.out hgrw (fun e => NPO.out (Option.some.inj e))); have BR5 := Aside0.mk (blk_grown BR4.out hgrw (fun e => NRO.out (Option.some.inj e))); have HB5 := Aside0.mk (HB4.out.grown hgrw HB4.out.size (by intro q hq; cases hq; exact GO.out)); have HO5 := Aside0.mk (Kd.S_grown (Kd.S_types HO4.out BO4.out (by decide)) hgrw (fun q hq e => hq.2 (Option.some.inj e))); have hp0 : w5.cell? ⟨gp, 0, none⟩ = some (.slice A0 l0.length c0) := (blk_cell BP5.out 0).trans rfl; have hp1 : w5.cell? ⟨gp, 1, none⟩ = some (.slice A1 l1.length c1) := (blk_cell BP5.out 1).trans rfl; clear hblk hgrw))
  refine (laws_toPendS.calls k A1 c1 l1 s2 _ (Kd.C_below HR1.out HB5.out) HC1.out N2.out).mono ?_
  rintro e w6 ⟨v6, rfl, ho6, hb6⟩
  have HQ6 := Aside0.mk (Kd.S_mono (Kd.S_bound ho6) (ok' := fun q => w5.heap.size ≤ q) (fun q hq => hq.2.1))
  have HP6 := Aside0.mk (Kd.S_mono (Kd.S_old HO5.out hb6) (ok' := fun q => q < w5.heap.size ∧ q ≠ go) (fun q hq => ⟨hq.2, hq.1.2⟩))
  have HQ7 := Aside0.mk (Kd.S_lower HQ6.out HB5.out.size)
  have HB6 := Aside0.mk (below_step HB5.out hb6)
  have BR6 := Aside0.mk (blk_below BR5.out hb6)
  have BO6 := Aside0.mk (blk_below BO5.out hb6)
  have HNO : Aside0 (go < w5.heap.size) := ⟨blk_lt BO5.out⟩
  have HNR : Aside0 (gr < w5.heap.size) := ⟨blk_lt BR5.out⟩
  have HRT := Aside0.mk (Kd.S_types HP6.out BR6.out (by decide))
  clear ho6 hb6 HB5 BP5 BR5 BO5 hp0 hp1 HO5 HQ6 HP6
  obtain ⟨A6, c6, ev6⟩ := Kd.S_slice HQ7.out
  subst ev6
  go_wp2_with (first | ((with_reducible refine gate_ (.store 42 (.tmp 11) (.tmp 10)) rfl ?_); refine store_blk rfl rfl 42 (.tmp 11) (.tmp 10) rfl (off := 1) (u := .slice A6 s2.length c6) #[.slice A4 s1.length c4, .slice A6 s2.length c6] rfl rfl BO6.out [.slice A6 s2.length c6] rfl (by kernel_rfl) (Nat.le_of_ble_eq_true rfl) rfl rfl ?_; intro w7 hblk hgrw; have BO7 := Aside0.mk hblk; have BR7 := Aside0.mk (blk_grown BR6.out hgrw (fun e => NRO.out (Option.some.inj e))); have HB7 := Aside0.mk (HB6.out.grown hgrw HB6.out.size (by intro q hq; cases hq; exact GO.out)); have HP7 := Aside0.mk (Kd.S_grown HRT.out hgrw (fun q hq e => hq.1.2 (Option.some.inj e))); have HQ8a := Aside0.mk (Kd.S_grown HQ7.out hgrw (fun q hq e => by cases e; exact absurd hq (Nat.not_le.mpr HNO.out))); have ho0 : w7.cell? ⟨go, 0, none⟩ = some (.slice A4 s1.length c4) := (blk_cell BO7.out 0).trans rfl; have ho1 : w7.cell? ⟨go, 1, none⟩ = some (.slice A6 s2.length c6) := (blk_cell BO7.out 1).trans rfl; clear hblk hgrw) | ((with_reducible refine gate_ (.store 44 (.tmp 2) (.tmp 12)) rfl ?_); refine store_blk rfl rfl 44 (.tmp 2) (.tmp 12) rfl (off := 0) (u := .agg #[.slice A4 s1.length c4, .slice A6 s2.length c6]) #[.slice A4 s1.length c4, .slice A6 s2.length c6] rfl rfl BR7.out [.slice A4 s1.length c4, .slice A6 s2.length c6] rfl (by kernel_rfl) (Nat.le_of_ble_eq_true rfl) rfl rfl ?_; intro w8 hblk hgrw; have BR8 := Aside0.mk hblk; have HB8 := Aside0.mk (HB7.out.grown hgrw HB7.out.size (by intro q hq; cases hq; exact GR.out)); have HP8 := Aside0.mk (Kd.S_grown HP7.out hgrw (fun q hq e => hq.2 (Option.some.inj e))); have HQ8 := Aside0.mk (Kd.S_grown HQ8a.out hgrw (fun q hq e => by cases e; exact absurd hq (Nat.not_le.mpr HNR.out))); clear hblk hgrw))
  refine bodyPost_ret (results_cell_row rfl _ _ gr 44 #[.slice A4 s1.length c4, .slice A6 s2.length c6] (0, 0) _ rfl BR8.out Try.underlying44 rfl (by kernel_rfl)) rfl ?_
  exact ⟨_, _, _, _, rfl, ⟨fun q h1 h2 => by have := h1.1.1; omega, HP8.out, HQ8.out⟩, HB8.out⟩
end Go.Proofs.Ytlopmffdebhpfaa.G

/-! ## MarkD -/
namespace Go.Proofs.Ytlopmffdebhpfaa.G
open Go.RowKit Go.Proofs.YtlopmffdebhpfaaW.PrintWords Go.Proofs.YtlopmffdebhpfaaW.PrintLast Go.Proofs.YtlopmffdebhpfaaW.PrintMore
set_option linter.unusedVariables false
set_option linter.unusedSimpArgs false

set_option maxHeartbeats 4000000 in
set_option maxRecDepth 100000 in
theorem laws_markDisk.calls (P Q : Nat → Prop) (v0 v1 : Value) (r1 : List (List Int)) (r2 : List S185) (m : Int) (w0 w : World) (hB : Below w0.heap.size w0 w) (hD : IsDisk w w0.heap.size P Q v0 v1 r1 r2) (h0 : 0 ≤ m) (h1 : m + totL r1 + totP r2 ≤ 4611686018427387904) :
    Calls Try.prog 29 #[.agg #[v0, v1], .int .i64 m] w fun e w' => e = .returned (.int .i64 (m + totL r1 + totP r2)) ∧ IsDisk w' w0.heap.size P Q v0 v1 (mkSS r1 m) (mkPS r2 (m + totL r1)) ∧ Below w0.heap.size w0 w' ∧ Kept w w' (fun q => P q ∨ Q q) := by
  have hu44 := Try.underlying44
  obtain ⟨hap, hs0, hs1⟩ := hD
  obtain ⟨A0, c0, rfl⟩ := Kd.S_slice hs0
  obtain ⟨A1, c1, rfl⟩ := Kd.S_slice hs1
  have HP := Aside0.mk (Kd.S_mono (Kd.S_bound hs0) (ok' := fun q => P q ∧ q < w.heap.size) (fun q hq => ⟨hq.1, hq.2.2.1⟩))
  have HQ := Aside0.mk (Kd.S_mono (Kd.S_bound hs1) (ok' := fun q => Q q ∧ q < w.heap.size) (fun q hq => ⟨hq.1, hq.2.2.1⟩))
  have HAP := Aside0.mk hap
  have HB := Aside0.mk hB
  have HM0 := Aside0.mk h0
  have HM1 := Aside0.mk h1
  clear hap hs0 hs1 hB h0 h1
  go_enter Try.func29, Try.ntmps29
  go_wp2_with (first | ((with_reducible refine gate_dst (N := 2) rfl ?_); refine box_event ?hg (N := 2) ?hd (cs := #[.slice A0 r1.length c0, .slice A1 r2.length c1]) (t := 44) ?hr ?_; (case hd => rfl); (case hg => rfl); (case hr => first | (go_simp; done) | (go_simp; rfl)); intro gp hgr w1 hbox hbel; have BP := Aside0.mk hbox; have GP := Aside0.mk hgr; have HL := Aside0.mk hbel; have HB1 := Aside0.mk (below_step HB.out hbel); have hp0 : w1.cell? ⟨gp, 0, none⟩ = some (.slice A0 r1.length c0) := (blk_cell hbox 0).trans rfl; have hp1 : w1.cell? ⟨gp, 1, none⟩ = some (.slice A1 r2.length c1) := (blk_cell hbox 1).trans rfl; clear hbox hbel hgr))
  refine (laws_markByteSS.calls (fun q => P q ∧ q < w.heap.size) (.slice A0 r1.length c0) r1 m w0 _ HB1.out (Kd.S_below HP.out HL.out) HM0.out (by have := HM0.out; have := HM1.out; omega)).mono ?_
  rintro e w2 ⟨rfl, hs, hb, hk⟩
  have HP2 := Aside0.mk hs
  have HB2 := Aside0.mk hb
  have BP2 := Aside0.mk (show w2.heap[gp]? = some (.cells #[.slice A0 r1.length c0, .slice A1 r2.length c1] 44 (0, 0)) from (hk.2 gp (blk_lt BP.out) (fun h => by have := h.2; have := GP.out; omega)).trans BP.out)
  have HQ2 := Aside0.mk (Kd.S_step (Kd.S_below HQ.out HL.out) (w1 := w2) (fun q hq hlt => hk.2 q hlt (fun h => HAP.out q h.1 hq.1)))
  have HK2 := Aside0.mk (show Kept w w2 (fun q => P q ∨ Q q) from keptTrans (Kept.of_below HL.out (fun q => P q ∨ Q q)) (hk.mono (fun q h => .inl h.1)) (fun q h => h))
  clear hs hb hk HB1 BP HL HP HQ hp0 hp1
  have hp1 : w2.cell? ⟨gp, 1, none⟩ = some (.slice A1 r2.length c1) := (blk_cell BP2.out 1).trans rfl
  go_wp2_with fail
  refine (laws_markPendS.calls (fun q => Q q ∧ q < w.heap.size) (.slice A1 r2.length c1) r2 (m + totL r1) w0 _ HB2.out HQ2.out (by have := HM0.out; omega) (by have := HM1.out; omega)).mono ?_
  rintro e w3 ⟨rfl, hs, hb, hk⟩
  have HQ3 := Aside0.mk (Kd.S_mono hs (ok' := Q) (fun q hq => hq.1))
  have HP3 := Aside0.mk (Kd.S_mono (Kd.S_step HP2.out (w1 := w3) (fun q hq hlt => hk.2 q hlt (fun h => HAP.out q hq.1 h.1))) (ok' := P) (fun q hq => hq.1))
  have HB3 := Aside0.mk hb
  have HK3 := Aside0.mk (keptTrans HK2.out hk (fun q h => .inr h.1))
  clear hs hb hk
  go_wp2_with fail
  go_ret
  exact ⟨rfl, ⟨HAP.out, HP3.out, HQ3.out⟩, HB3.out, HK3.out⟩
end Go.Proofs.Ytlopmffdebhpfaa.G

/-! ## LMap -/
namespace Go.Proofs.Ytlopmffdebhpfaa.G
open Go.RowKit Go.Maps Go.Proofs.YtlopmffdebhpfaaW.PrintWords Go.Proofs.YtlopmffdebhpfaaW.PrintLast Go.Proofs.YtlopmffdebhpfaaW.PrintMore
/-- Block b is a map of at most n entries that reads as m. -/
def LMap (w : World) (b n : Nat) (m : Int → Option Int) : Prop :=
  ∃ D : DataW Unit, w.ownsMap Try.prog 3 (plainElem Try.prog 3) b n D ∧ Maps.IsMap D ∧ ∀ x, Maps.has D (.int .i64 x) = (m x).isSome ∧ ∀ c, m x = some c → D.atKey (.int .i64 x) (.lit (.int .i64 0)) = .lit (.int .i64 c)
theorem lawInt : Keyed Try.prog 3 := int_keyed Try.underlying3
theorem LMap_lt {w : World} {b n : Nat} {m : Int → Option Int} (h : LMap w b n m) : b < w.heap.size := by
  obtain ⟨D, h, _⟩ := h
  exact h.lt
theorem LMap_made (w : World) : LMap (w.alloc (.map #[] 0)) w.heap.size 0 (fun _ => none) :=
  ⟨.map [], World.ownsMap_made _ _ _ _, Maps.isMap_empty, fun x => ⟨rfl, fun c h => by cases h⟩⟩
theorem LMap_step {w w1 : World} {b n : Nat} {m : Int → Option Int} (h : LMap w b n m) (hb : w1.heap[b]? = w.heap[b]?) : LMap w1 b n m := by
  obtain ⟨D, ⟨es, clock, h1, h2⟩, h3⟩ := h
  exact ⟨D, ⟨es, clock, hb.trans h1, h2⟩, h3⟩
theorem LMap_put {w : World} {b n : Nat} {m : Int → Option Int} (h : LMap w b n m) (hn : n < maxLen) {x c : Int} (hx : (Lit.int .i64 x).wf = true) (hc : (Lit.int .i64 c).wf = true) :
    ∃ w1, (Instr.mapUpdate 157 (.map (some b)) (.int .i64 x) (.int .i64 c)).run Try.prog w = .ok () w1 ∧ LMap w1 b (n + 1) (fun y => if y = x then some c else m y) ∧ w.grownBy w1 (some b) := by
  obtain ⟨D, ho, hM, hD⟩ := h
  have hkey := keyOf_int_mk Try.underlying3 hx
  obtain ⟨w1, hrun, h1, h2⟩ := ho.update lawInt Try.underlying157 hn hkey (plainElem_int Try.underlying3 hc)
  refine ⟨w1, hrun, ⟨_, h1, hM.put _ _, fun y => ?_⟩, h2⟩
  by_cases hy : y = x
  · subst hy
    have hk : WideAt.IsKeyLit (.int .i64 y) := by first | trivial | exact rfl | simp [WideAt.IsKeyLit]
    dsimp only
    rw [if_pos rfl]
    refine ⟨Maps.has_put_same hM hk _, fun c' hc' => ?_⟩
    obtain rfl := Option.some.inj hc'
    exact Maps.atKey_put_same hM hk _ _
  · have hne : (Lit.int .i64 y) ≠ (Lit.int .i64 x) := fun e => hy (by injection e)
    dsimp only
    rw [if_neg hy, Maps.has_put_other hne, Maps.atKey_put_other hne]
    exact hD y
theorem LMap_clear {w : World} {b n : Nat} {m : Int → Option Int} (h : LMap w b n m) (ty : TypeId) :
    ∃ w1, (Builtin.clear_ #[157] ty #[.map (some b)]).run Try.prog w = .ok (.tuple #[]) w1 ∧ LMap w1 b 0 (fun _ => none) ∧ w.grownBy w1 (some b) := by
  obtain ⟨D, ⟨es, clock, h1, _⟩, _⟩ := h
  refine ⟨{ w with heap := w.heap.setIfInBounds b (.map #[] clock) }, ?_, ⟨.map [], ⟨#[], clock, ?_, ⟨by simp, MapKept.stamped_empty clock, by simp⟩, Nat.le_refl _, rfl⟩, Maps.isMap_empty, fun x => ⟨rfl, fun c h => by cases h⟩⟩, ⟨rfl, rfl, rfl, by simp, fun i _ hi => ?_⟩⟩
  · have hg := MapKept.run_getObj_map (P := Try.prog) h1
    have hs : (setObj b (.map #[] clock)).run Try.prog w = .ok () { w with heap := w.heap.setIfInBounds b (.map #[] clock) } := by simp [setObj, Sem.run, h1]
    simp [Builtin.clear_, run_underlying Try.underlying157, hg, hs]
  · have hlt := (Array.getElem?_eq_some_iff.1 h1).1
    simp [hlt]
  · have hne : b ≠ i := fun e => hi (by rw [e])
    simp [Array.getElem?_setIfInBounds_ne hne]
end Go.Proofs.Ytlopmffdebhpfaa.G

/-! ## LSet -/
namespace Go.Proofs.Ytlopmffdebhpfaa.G
open Go.RowKit Go.Maps Go.Proofs.YtlopmffdebhpfaaW.PrintWords Go.Proofs.YtlopmffdebhpfaaW.PrintLast Go.Proofs.YtlopmffdebhpfaaW.PrintMore
set_option linter.unusedVariables false
/-- Block b is a map of at most n entries whose members are l. -/
def LSet (w : World) (b n : Nat) (l : List Int) : Prop :=
  ∃ D : DataW Unit, w.ownsMap Try.prog 3 (plainElem Try.prog 4) b n D ∧ Maps.IsMap D ∧ ∀ x, D.atKey (.int .i64 x) (.lit (.bool false)) = .lit (.bool (decide (x ∈ l)))
section
variable {P : Program} {ops : Array Oper} {rest : List Oper} {o : Oper} {a : Act} {Q : Exit → Act → World → Prop}
end
section
variable {α : Type} {d : Kd α} {e base g b n : Nat} {w w1 : World} {ok : Nat → Prop} {v : Value} {xs : List α} {l : List Int}
/-- A block of another type is written. -/
theorem R_off (h : d.R e w base ok v xs) {t : Nat} {cells : Array Value} (hb : w.heap[g]? = some (.cells cells t (0, 0))) (ht : ∀ q, q ∈ e :: d.E → q ≠ t) (hg : w.grownBy w1 (some g)) : d.R e w1 base ok v xs :=
  Kd.R_mono (Kd.R_grown (Kd.R_types h hb ht) hg (fun q hq he => hq.2 (Option.some.inj he))) (fun _ hq => hq.1)
/-- The set is written. -/
theorem R_set (h : d.R e w base ok v xs) (hs : LSet w b n l) (hg : w.grownBy w1 (some b)) : d.R e w1 base ok v xs :=
  Kd.R_mono (Kd.R_grown (Kd.R_bound h) hg (fun _ hq he => by
    obtain ⟨_, _, _, _, _, cells, hc⟩ := hq
    obtain ⟨D, ⟨es, clock, h1, _⟩, _⟩ := hs
    rw [Option.some.inj he, h1] at hc
    cases hc)) (fun _ hq => hq.1)
end
end Go.Proofs.Ytlopmffdebhpfaa.G

/-! ## LawL -/
namespace Go.Proofs.Ytlopmffdebhpfaa.G
open Go.RowKit Go.Proofs.YtlopmffdebhpfaaW.PrintWords Go.Proofs.YtlopmffdebhpfaaW.PrintLast Go.Proofs.YtlopmffdebhpfaaW.PrintMore
set_option linter.unusedVariables false
/-- The blocks of S are of the types T. -/
def Ty (w : World) (S : Nat → Prop) (T : List Nat) : Prop := ∀ q, S q → ∃ t, t ∈ T ∧ ∃ cells, w.heap[q]? = some (.cells cells t (0, 0))
section
variable {w w1 : World} {base g g' t t' : Nat} {cs cs' : Array Value} {P Q S : Nat → Prop} {T : List Nat} {v0 v1 : Value} {r1 : List (List Int)} {r2 : List S185}
theorem blk_type (h : w.heap[g]? = some (.cells cs t (0, 0))) (h' : w.heap[g]? = some (.cells cs' t' (0, 0))) : t = t' := by
  rw [h] at h'
  injection h' with h'
  injection h' with _ h'
theorem blk_off (h : w.heap[g]? = some (.cells cs t (0, 0))) (hb : w.heap[g']? = some (.cells cs' t' (0, 0))) (ht : t ≠ t') (hg : w.grownBy w1 (some g')) : w1.heap[g]? = some (.cells cs t (0, 0)) :=
  blk_grown h hg (fun e => ht (by rw [← Option.some.inj e] at hb; exact blk_type h hb))
theorem D_off (h : IsDisk w base P Q v0 v1 r1 r2) (hb : w.heap[g]? = some (.cells cs t (0, 0))) (ht : (∀ q, q ∈ [22, 5] → q ≠ t) ∧ ∀ q, q ∈ [185, 5] → q ≠ t) (hg : w.grownBy w1 (some g)) : IsDisk w1 base P Q v0 v1 r1 r2 :=
  ⟨h.1, Kd.S_mono (Kd.S_grown (Kd.S_types h.2.1 hb ht.1) hg (fun q hq e => hq.2 (Option.some.inj e))) (fun _ hq => hq.1), Kd.S_mono (Kd.S_grown (Kd.S_types h.2.2 hb ht.2) hg (fun q hq e => hq.2 (Option.some.inj e))) (fun _ hq => hq.1)⟩
theorem D_drew (h : IsDisk w base P Q v0 v1 r1 r2) : IsDisk w.drew base P Q v0 v1 r1 r2 := ⟨h.1, Kd.S_drew h.2.1, Kd.S_drew h.2.2⟩
theorem D_lower {base' : Nat} (h : IsDisk w base P Q v0 v1 r1 r2) (hb : base' ≤ base) : IsDisk w base' P Q v0 v1 r1 r2 := ⟨h.1, Kd.S_lower h.2.1 hb, Kd.S_lower h.2.2 hb⟩
/-- A disk's sets of blocks, as small as its types tell. -/
theorem D_tight (h : IsDisk w base P Q v0 v1 r1 r2) : ∃ P' Q', IsDisk w base P' Q' v0 v1 r1 r2 ∧ Ty w (fun q => P' q ∨ Q' q) [22, 5, 185] ∧ ∀ q, P' q ∨ Q' q → (P q ∨ Q q) ∧ base ≤ q ∧ q < w.heap.size := by
  refine ⟨_, _, ⟨fun q h1 h2 => h.1 q h1.1 h2.1, Kd.S_bound h.2.1, Kd.S_bound h.2.2⟩, fun q hq => ?_, fun q hq => ?_⟩
  · rcases hq with ⟨_, _, _, t, ht, hc⟩ | ⟨_, _, _, t, ht, hc⟩
    · exact ⟨t, by simp [Kd.slice, Kd.int, Kd.scalar] at ht; simp; omega, hc⟩
    · exact ⟨t, by simp [k185, Kd.iso, Kd.pair, Kd.slice, Kd.int, Kd.scalar] at ht; simp; omega, hc⟩
  · rcases hq with ⟨h1, h2, h3, _⟩ | ⟨h1, h2, h3, _⟩
    · exact ⟨.inl h1, h2, h3⟩
    · exact ⟨.inr h1, h2, h3⟩
theorem blk_keptT (h : w.heap[g]? = some (.cells cs t (0, 0))) (hk : Kept w w1 S) (hT : Ty w S T) (ht : t ∉ T) : w1.heap[g]? = some (.cells cs t (0, 0)) :=
  blk_kept h hk (fun hs => by
    obtain ⟨t', h1, cells, hc⟩ := hT g hs
    exact ht (by rw [blk_type h hc]; exact h1))
end
end Go.Proofs.Ytlopmffdebhpfaa.G

/-! ## DiskL -/
namespace Go.Proofs.Ytlopmffdebhpfaa.G
open Go.RowKit Go.Proofs.YtlopmffdebhpfaaW.PrintWords Go.Proofs.YtlopmffdebhpfaaW.PrintLast Go.Proofs.YtlopmffdebhpfaaW.PrintMore
set_option linter.unusedVariables false
section
variable {α : Type} {d : Kd α} {w w1 : World} {base e g t : Nat} {cs : Array Value} {ok : Nat → Prop} {v : Value} {xs : List α}
theorem S_off (h : Kd.S d e w base ok v xs) (hb : w.heap[g]? = some (.cells cs t (0, 0))) (ht : ∀ q, q ∈ e :: d.E → q ≠ t) (hg : w.grownBy w1 (some g)) : Kd.S d e w1 base ok v xs :=
  Kd.S_mono (Kd.S_grown (Kd.S_types h hb ht) hg (fun q hq he => hq.2 (Option.some.inj he))) (fun _ hq => hq.1)
end
/-- An empty row's one block. -/
theorem S_nil_own {α : Type} {d : Kd α} {w : World} {base e : Nat} {ok : Nat → Prop} {v : Value} (h : Kd.S d e w base ok v []) : Kd.S d e w base (fun k => some k = v.ownBlock) v [] := by
  obtain ⟨f, h0, inner, ho, hr⟩ := h
  exact ⟨f, fun k hk => hk.symm, inner, ho, hr.1, fun j p hj => by simp at hj⟩
theorem take_snoc {α : Type} {xs : List α} {z : α} {x : Int} (h0 : 0 ≤ x) (h1 : x < (xs.length : Int)) : xs.take (x + 1).toNat = xs.take x.toNat ++ [xs.getD x.toNat z] := by
  have hq : x.toNat < xs.length := by omega
  rw [show (x + 1).toNat = x.toNat + 1 by omega, List.take_add_one, List.getElem?_eq_getElem hq, List.getD_eq_getElem?_getD, List.getElem?_eq_getElem hq]
  rfl
theorem getD_mem {α : Type} {xs : List α} {z : α} {x : Int} (h0 : 0 ≤ x) (h1 : x < (xs.length : Int)) : xs.getD x.toNat z ∈ xs := by
  have hq : x.toNat < xs.length := by omega
  rw [List.getD_eq_getElem?_getD, List.getElem?_eq_getElem hq]
  exact List.getElem_mem hq
end Go.Proofs.Ytlopmffdebhpfaa.G

/-! ## Mu -/
namespace Go.Proofs.Ytlopmffdebhpfaa.G
open Go.Proofs
abbrev muLink : Go.Conc.Locks.MuLink := { lock := 139, unlock := 140, ilock := 163, iunlock := 164, lockSlow := 182, unlockSlow := 185, disable := 178, enable := 180, acquire := 181, relMerge := 183, cas32 := 179, add32 := 184, tMutex := 156, tIMutex := 154, tPMutex := 216, tPIMutex := 225, tPI32 := 227, tUP := 229, tNoCopy := 151, tU32 := 152 }
theorem muLib : Go.Conc.Locks.MuLib Try.prog muLink :=
  ⟨Try.func139, Try.func140, Try.func163, Try.func164, Try.func178, Try.func180, Try.func181, Try.func183, Try.func179, Try.func184, Try.underlying154, Try.runUnderlying154, Try.sizeOf154, Try.isAgg154, Try.zeroValue154, Try.underlying156, Try.runUnderlying156, Try.sizeOf156, Try.isAgg156, Try.zeroValue156, Try.underlying216, Try.runUnderlying216, Try.sizeOf216, Try.isAgg216, Try.zeroValue216, Try.underlying225, Try.runUnderlying225, Try.sizeOf225, Try.isAgg225, Try.zeroValue225, Try.underlying227, Try.runUnderlying227, Try.sizeOf227, Try.isAgg227, Try.zeroValue227, Try.underlying229, Try.runUnderlying229, Try.sizeOf229, Try.isAgg229, Try.zeroValue229, Try.underlying151, Try.runUnderlying151, Try.sizeOf151, Try.isAgg151, Try.zeroValue151, Try.underlying21, Try.runUnderlying21, Try.sizeOf21, Try.isAgg21, Try.zeroValue21, (by kernel_rfl)⟩
end Go.Proofs.Ytlopmffdebhpfaa.G

/-! ## Dev -/
namespace Go.Proofs.Ytlopmffdebhpfaa.G
open Go.RowKit Go.Proofs.YtlopmffdebhpfaaW.PrintWords Go.Proofs.YtlopmffdebhpfaaW.PrintLast Go.Proofs.YtlopmffdebhpfaaW.PrintMore
set_option linter.unusedVariables false
set_option linter.unusedSimpArgs false

/-- For each sector the number of its last pending write. -/
def lastM (ps : List S185) : Int → Option Int := ps.zipIdx.foldl (fun m p => fun y => if y = p.1.f0 then some (p.2 : Int) else m y) (fun _ => none)
theorem lastM_snoc (ps : List S185) (p : S185) : lastM (ps ++ [p]) = fun y => if y = p.f0 then some (ps.length : Int) else lastM ps y := by
  unfold lastM
  rw [List.zipIdx_append, List.foldl_append]
  simp
/-- Block g is a device that nobody has locked, b its map. -/
def IsDev (w : World) (g b : Nat) (A0 : Option Addr) (n0 c0 : Nat) (A1 : Option Addr) (n1 c1 : Nat) : Prop :=
  w.heap[g]? = some (.cells #[.int .i32 0, .int .u32 0, .slice A0 n0 c0, .slice A1 n1 c1, .map (some b)] 159 (0, 0))
section
variable {P : Program} {ops : Array Oper} {rest : List Oper} {o : Oper} {a : Act} {Q : Exit → Act → World → Prop}
theorem map_event {W : World} (hgd : o.guard = none) {N : Tmp} (_hd : o.dst = some N) (t : TypeId) (ho : o.op = .makeMap t none)
    (h : ∀ b, b = W.heap.size → ∀ w1, LMap w1 b 0 (fun _ => none) → Below W.heap.size W w1 → wpList P ops Q rest (a.put o.dst (.map (some b))) w1) : wpList P ops Q (o :: rest) a W := by
  refine Kd.event_run hgd (v := .map (some W.heap.size)) (w1 := W.alloc (.map #[] 0)) ?_ (h _ rfl _ (LMap_made W) (below_alloc (Below.refl _ _) _))
  simp [execOp, ho, run_makeMap]
theorem map_put_step {W : World} {K : Act → World → Prop} (hw : Region.wanted o (yielded ops a.tmps) = true) (hN : o.dst = none) (m x v : Operand) (ho : o.op = .mapUpdate 157 m x v) {b n : Nat} {f : Int → Option Int} {y c : Int}
    (hm : a.eval m = .map (some b)) (hx : a.eval x = .int .i64 y) (hv : a.eval v = .int .i64 c) (hl : LMap W b n f) (hn : n < maxLen) (hy : (Lit.int .i64 y).wf = true) (hc : (Lit.int .i64 c).wf = true)
    (h : ∀ w1, LMap w1 b (n + 1) (fun z => if z = y then some c else f z) → W.grownBy w1 (some b) → K a w1) : if Region.wanted o (yielded ops a.tmps) = true then Oper.wp Try.prog o a W K Q else K (a.put none undef) W := by
  obtain ⟨w1, hr, h1, h2⟩ := LMap_put hl hn hy hc
  rw [if_pos hw]
  unfold Oper.wp
  simp [execOp, ho, hm, hx, hv, hr, Result.andThen]
  show K (a.put o.dst undef) w1
  rw [hN]
  exact h _ h1 h2
end

def impl_deviceOf.T5 : Bool × List (List Nat × List Nat) := (true, [([], []), ([0], [0]), ([1], [1]), ([2], [2]), ([], []), ([4], [4]), ([], []), ([3, 5, 6, 0, 1, 2, 3, 4, 5, 6], [3, 5, 6])])
def impl_deviceOf.B5 : List Nat := [0, 1, 3, 7, 0, 16, 0, 127]
theorem impl_deviceOf.tab5 : rtab .any (opsOf Try.f88 5) = impl_deviceOf.T5 := by kernel_rfl
theorem impl_deviceOf.bits5 : waitsOk impl_deviceOf.T5.2 impl_deviceOf.B5 = true := by kernel_rfl
set_option maxHeartbeats 4000000 in
set_option maxRecDepth 100000 in
theorem impl_deviceOf.calls (A0 : Option Addr) (n0 c0 : Nat) (A1 : Option Addr) (c1 : Nat) (ps : List S185) (w : World) (hr1 : Kd.C k185 w A1 ps.length ps) (hc1 : ps.length ≤ c1) (hwf : ∀ p ∈ ps, (Lit.int .i64 p.f0).wf = true) :
    Calls Try.prog 88 #[.agg #[.slice A0 n0 c0, .slice A1 ps.length c1]] w fun e w' => ∃ g b, e = .returned (.pointer (some ⟨g, 0, none⟩)) ∧ IsDev w' g b A0 n0 c0 A1 ps.length c1 ∧ LMap w' b ps.length (lastM ps) ∧ w.heap.size ≤ g ∧ w.heap.size ≤ b ∧ g ≠ b ∧ Below w.heap.size w w' := by
  have hu44 := Try.underlying44
  have hu159 := Try.underlying159
  have hu185 := Try.underlying185
  have HR := Aside0.mk hr1
  have HC := Aside0.mk hc1
  have HW := Aside0.mk hwf
  have HX : Aside0 (ps.length ≤ 9223372036854775807) := ⟨hr1.2.1⟩
  clear hr1 hc1 hwf
  go_enter Try.func88, Try.ntmps88
  go_wp2_with (first | ((with_reducible refine gate_dst (N := 1) rfl ?_); refine box_event ?hg (N := 1) ?hd (cs := #[.slice A0 n0 c0, .slice A1 ps.length c1]) (t := 44) ?hr ?_; (case hd => rfl); (case hg => rfl); (case hr => first | (go_simp; done) | (go_simp; rfl)); intro gd hgr w1 hbox hbel; have BD := Aside0.mk hbox; have HB := Aside0.mk hbel; have GD : Aside0 (w.heap.size ≤ gd) := ⟨Nat.le_of_eq hgr.symm⟩; have hd0 : w1.cell? ⟨gd, 0, none⟩ = some (.slice A0 n0 c0) := (blk_cell hbox 0).trans rfl; have hd1 : w1.cell? ⟨gd, 1, none⟩ = some (.slice A1 ps.length c1) := (blk_cell hbox 1).trans rfl; clear hbox hbel hgr) | ((with_reducible refine gate_dst (N := 7) rfl ?_); refine map_event ?hg (N := 7) ?hd 157 ?ho ?_; (case hd => rfl); (case hg => rfl); (case ho => rfl); intro b hb w2 hmap hbel; have LM := Aside0.mk hmap; have HB2 := Aside0.mk (below_step HB.out hbel); have BD1 := Aside0.mk (blk_below BD.out hbel); have GM : Aside0 (w.heap.size ≤ b) := ⟨by rw [hb]; exact HB.out.size⟩; clear hb hmap hbel) | ((with_reducible refine gate_dst (N := 9) rfl ?_); refine box_event ?hg (N := 9) ?hd (cs := #[.int .i32 0, .int .u32 0, .slice A0 n0 c0, .slice A1 ps.length c1, .map (some b)]) (t := 159) ?hr ?_; (case hd => rfl); (case hg => rfl); (case hr => first | (go_simp; done) | (go_simp; rfl)); intro gv hgr w3 hbox hbel; have BV : Aside0 (IsDev w3 gv b A0 n0 c0 A1 ps.length c1) := ⟨hbox⟩; have HB3 := Aside0.mk (below_step HB2.out hbel); have LM2 := Aside0.mk (LMap_step LM.out (hbel.block b (LMap_lt LM.out))); have BD2 := Aside0.mk (blk_below BD1.out hbel); have GV : Aside0 (w.heap.size ≤ gv) := ⟨by rw [hgr]; exact HB2.out.size⟩; have NVM : Aside0 (gv ≠ b) := ⟨by have := LMap_lt LM.out; omega⟩; have hd0 : w3.cell? ⟨gd, 0, none⟩ = some (.slice A0 n0 c0) := (blk_cell BD2.out 0).trans rfl; have hd1 : w3.cell? ⟨gd, 1, none⟩ = some (.slice A1 ps.length c1) := (blk_cell BD2.out 1).trans rfl; clear hbox hbel hgr))
  go_loopg [13] ps.length (fun gk v13 w' => ∃ x : Int, v13 = .int .i64 x ∧ Aside0 (0 ≤ x ∧ (gk : Int) + x = (ps.length : Int)) ∧ Aside0 (w'.heap[gd]? = some (.cells #[.slice A0 n0 c0, .slice A1 ps.length c1] 44 (0, 0))) ∧ Aside0 (IsDev w' gv b A0 n0 c0 A1 ps.length c1) ∧ Aside0 (LMap w' b x.toNat (lastM (ps.take x.toNat))) ∧ Aside0 (Below w.heap.size w w'))
  case atStart =>
    exact ⟨0, rfl, ⟨by omega⟩, BD2, BV, LM2, HB3⟩
  case round =>
    clear BD2 BV LM2 HB3
    obtain ⟨x, rfl, HXK, BD, BV, LM, HB⟩ := hrel
    cases gk with
    | zero =>
      have hx : x = (ps.length : Int) := by have := HXK.out; omega
      subst hx
      have c4b0 : decide ((ps.length : Int) < (ps.length : Int)) = false := decide_eq_false (by omega)
      have LM2 := LM.out
      rw [Int.toNat_natCast, List.take_length] at LM2
      go_wp2_with fail
      go_ret
      exact ⟨gv, b, rfl, BV.out, LM2, GV.out, GM.out, NVM.out, HB.out⟩
    | succ gk =>
      have p0 : 0 ≤ x := HXK.out.1
      have q0 : x < (ps.length : Int) := by have := HXK.out; omega
      have c4b0 : decide (x < (ps.length : Int)) = true := decide_eq_true q0
      have c4b1 : decide (0 ≤ x) = true := decide_eq_true p0
      obtain ⟨ad, A5, c5, e5, hx0, hx1, hl5, hi5⟩ := at_T185 HR.out x p0 q0
      cases e5
      replace hx0 := (HB.out.cell (World.block_lt_of_cell? w _ hx0)).trans hx0
      replace hx1 := (HB.out.cell (World.block_lt_of_cell? w _ hx1)).trans hx1
      clear hl5 hi5
      have HP0 := Aside0.mk p0
      have HQ0 := Aside0.mk q0
      have hel : Aside0 (ps.take (x.toNat + 1) = ps.take x.toNat ++ [rd_T185 ps x]) := ⟨by
        have hq : x.toNat < ps.length := by omega
        rw [List.take_add_one, List.getElem?_eq_getElem hq]
        simp [rd_T185, List.getD_eq_getElem?_getD, List.getElem?_eq_getElem hq]⟩
      have hwx : Aside0 ((Lit.int .i64 (rd_T185 ps x).f0).wf = true) := ⟨HW.out _ (by
        have hq : x.toNat < ps.length := by omega
        simp only [rd_T185, List.getD_eq_getElem?_getD, List.getElem?_eq_getElem hq, Option.getD_some]
        exact List.getElem_mem hq)⟩
      replace p0 := eq_true p0
      replace q0 := eq_true q0
      go_wp2_with (first | ((with_reducible refine gate_dst (N := 5) rfl ?_); refine box_event ?hg (N := 5) ?hd (cs := #[.int .i64 0, .slice none 0 0]) (t := 185) ?hr ?_; (case hd => rfl); (case hg => rfl); (case hr => first | (go_simp; done) | (go_simp; rfl)); intro gp hgr w4 hbox hbel; have BP0 := Aside0.mk hbox; have S4 : Aside0 (w4.heap[gd]? = some (.cells #[.slice A0 n0 c0, .slice (some ad) ps.length c1] 44 (0, 0)) ∧ IsDev w4 gv b A0 n0 c0 (some ad) ps.length c1 ∧ LMap w4 b x.toNat (lastM (ps.take x.toNat)) ∧ Below w.heap.size w w4 ∧ w.heap.size ≤ gp ∧ gp ≠ gd ∧ gp ≠ gv ∧ gp ≠ b) := ⟨⟨blk_below BD.out hbel, blk_below BV.out hbel, LMap_step LM.out (hbel.block b (LMap_lt LM.out)), below_step HB.out hbel, by rw [hgr]; exact HB.out.size, by have := blk_lt BD.out; omega, by have := blk_lt BV.out; omega, by have := LMap_lt LM.out; omega⟩⟩; clear hbox hbel hgr) | ((with_reducible refine gate_ (.store 185 (.tmp 5) (.tmp 17)) rfl ?_); refine store_blk rfl rfl 185 (.tmp 5) (.tmp 17) rfl (off := 0) (u := .agg #[.int .i64 (rd_T185 ps x).f0, .slice A5 (rd_T185 ps x).f1.length c5]) #[.int .i64 (rd_T185 ps x).f0, .slice A5 (rd_T185 ps x).f1.length c5] rfl rfl BP0.out [.int .i64 (rd_T185 ps x).f0, .slice A5 (rd_T185 ps x).f1.length c5] rfl (by kernel_rfl) (Nat.le_of_ble_eq_true rfl) rfl rfl ?_; intro w5 hblk hgrw; have BP := Aside0.mk hblk; have S5 : Aside0 (w5.heap[gd]? = some (.cells #[.slice A0 n0 c0, .slice (some ad) ps.length c1] 44 (0, 0)) ∧ IsDev w5 gv b A0 n0 c0 (some ad) ps.length c1 ∧ LMap w5 b x.toNat (lastM (ps.take x.toNat)) ∧ Below w.heap.size w w5) := ⟨⟨blk_grown S4.out.1 hgrw (fun e => S4.out.2.2.2.2.2.1 (Option.some.inj e).symm), blk_grown S4.out.2.1 hgrw (fun e => S4.out.2.2.2.2.2.2.1 (Option.some.inj e).symm), LMap_step S4.out.2.2.1 (hgrw.block b (LMap_lt S4.out.2.2.1) (fun e => S4.out.2.2.2.2.2.2.2 (Option.some.inj e).symm)), S4.out.2.2.2.1.grown hgrw S4.out.2.2.2.1.size (by intro q hq; cases hq; exact S4.out.2.2.2.2.1)⟩⟩; clear hblk hgrw))
      refine start_ (n := 8) (S := fun w' => w'.heap[gp]? = some (.cells #[.int .i64 (rd_T185 ps x).f0, .slice A5 (rd_T185 ps x).f1.length c5] 185 (0, 0)) ∧ w'.heap[gd]? = some (.cells #[.slice A0 n0 c0, .slice (some ad) ps.length c1] 44 (0, 0)) ∧ IsDev w' gv b A0 n0 c0 (some ad) ps.length c1 ∧ LMap w' b x.toNat (lastM (ps.take x.toNat)) ∧ Below w.heap.size w w') (ds := [7]) #[false, false, false, false, false, false, false, false] (by kernel_rfl) rfl rfl (⟨blk_drew BP.out, blk_drew S5.out.1, blk_drew S5.out.2.1, LMap_step S5.out.2.2.1 rfl, below_drew1 S5.out.2.2.2⟩) (fun hHeld => ?_); refine with_tabW impl_deviceOf.tab5 impl_deviceOf.bits5 (fun HT_ HW_ => ?_)
      clear BP S5
      refine pure_ (i := 0) (N := some 18) (v := ?_) (a' := ?_) #[true, false, false, false, false, false, false, false] rfl rfl (any_of HT_.out (by kernel_rfl)) (fun _ _ _ h => h) (Or.inl ⟨by rfl, ?_⟩) ?_ ?_
      rotate_left
      · intro w'
        go_simp
        with_reducible rfl
      rotate_left
      · simp only [Act.put, List.setIfInBounds_toArray, List.set_cons_zero, List.set_cons_succ, i64_w, i32_w]
        rfl
      refine pure_ (i := 1) (N := some 19) (v := ?_) (a' := ?_) #[true, true, false, false, false, false, false, false] rfl rfl (any_of HT_.out (by kernel_rfl)) (fun _ _ _ h => h) (Or.inl ⟨by rfl, ?_⟩) ?_ ?_
      rotate_left
      · intro w'
        go_simp
        with_reducible rfl
      rotate_left
      · simp only [Act.put, List.setIfInBounds_toArray, List.set_cons_zero, List.set_cons_succ, i64_w, i32_w]
        rfl
      refine pure_ (i := 2) (N := some 20) (v := ?_) (a' := ?_) #[true, true, true, false, false, false, false, false] rfl rfl (any_of HT_.out (by kernel_rfl)) (fun _ _ _ h => h) (Or.inl ⟨by rfl, ?_⟩) ?_ ?_
      rotate_left
      · intro w'
        go_simp
        with_reducible rfl
      rotate_left
      · simp only [Act.put, List.setIfInBounds_toArray, List.set_cons_zero, List.set_cons_succ, i64_w, i32_w]
        rfl
      refine take_ (i := 3) (N := some 21) (v := ?_) (a' := ?_) #[true, true, true, true, false, false, false, false] rfl rfl (take_ofW HT_.out HW_.out (by kernel_rfl)) (fun _ _ _ h => h) (Or.inl ⟨by rfl, ?_⟩) hHeld ?_ ?_
      rotate_left
      · intro w' s0
        have hv4 : w'.cell? ⟨gv, 4, none⟩ = some (.map (some b)) := (blk_cell s0.2.2.1 4).trans rfl
        clear s0
        go_simp
        with_reducible rfl
      rotate_left
      · simp only [Act.put, List.setIfInBounds_toArray, List.set_cons_zero, List.set_cons_succ, i64_w, i32_w]
        rfl
      refine pure_ (i := 4) (N := some 22) (v := ?_) (a' := ?_) #[true, true, true, true, true, false, false, false] rfl rfl (any_of HT_.out (by kernel_rfl)) (fun _ _ _ h => h) (Or.inl ⟨by rfl, ?_⟩) ?_ ?_
      rotate_left
      · intro w'
        go_simp
        with_reducible rfl
      rotate_left
      · simp only [Act.put, List.setIfInBounds_toArray, List.set_cons_zero, List.set_cons_succ, i64_w, i32_w]
        rfl
      refine take_ (i := 5) (N := some 23) (v := ?_) (a' := ?_) #[true, true, true, true, true, true, false, false] rfl rfl (take_ofW HT_.out HW_.out (by kernel_rfl)) (fun _ _ _ h => h) (Or.inl ⟨by rfl, ?_⟩) hHeld ?_ ?_
      rotate_left
      · intro w' s0
        have hp0 : w'.cell? ⟨gp, 0, none⟩ = some (.int .i64 (rd_T185 ps x).f0) := (blk_cell s0.1 0).trans rfl
        clear s0
        go_simp
        with_reducible rfl
      rotate_left
      · simp only [Act.put, List.setIfInBounds_toArray, List.set_cons_zero, List.set_cons_succ, i64_w, i32_w]
        rfl
      refine pure_ (i := 6) (N := some 24) (v := ?_) (a' := ?_) #[true, true, true, true, true, true, true, false] rfl rfl (any_of HT_.out (by kernel_rfl)) (fun _ _ _ h => h) (Or.inl ⟨by rfl, ?_⟩) ?_ ?_
      rotate_left
      · intro w'
        go_simp
        with_reducible rfl
      rotate_left
      · simp only [Act.put, List.setIfInBounds_toArray, List.set_cons_zero, List.set_cons_succ, i64_w, i32_w]
        rfl
      refine last_ (i := 7) (N := none) #[true, true, true, true, true, true, true, true] rfl rfl (one_of HT_.out (by kernel_rfl)) (by decide) (fun K hK => ?_)
      refine map_put_step (by rfl) rfl (.tmp 21) (.tmp 23) (.tmp 24) rfl (b := b) (n := x.toNat) (y := (rd_T185 ps x).f0) (c := x) rfl rfl rfl hHeld.2.2.2.1 (by have := HP0.out; have := HQ0.out; have := HX.out; unfold maxLen; omega) hwx.out (WalkArith.wf_i64 (by have := HP0.out; have := HQ0.out; have := HX.out; omega)) ?_
      intro w6 hmap hgrw
      have LM5 := Aside0.mk hmap
      have BD5 := Aside0.mk (blk_grown hHeld.2.1 hgrw (fun e => by have h1 := hHeld.2.1; have h2 := hHeld.2.2.2.1; obtain ⟨_, ⟨_, _, h3, _⟩, _⟩ := h2; rw [← Option.some.inj e] at h3; rw [h1] at h3; cases h3))
      have BV5 : Aside0 (IsDev w6 gv b A0 n0 c0 (some ad) ps.length c1) := ⟨blk_grown hHeld.2.2.1 hgrw (fun e => NVM.out (Option.some.inj e))⟩
      have HB5 := Aside0.mk (hHeld.2.2.2.2.grown hgrw hHeld.2.2.2.2.size (by intro q hq; cases hq; exact GM.out))
      have BP5 := Aside0.mk (blk_grown hHeld.1 hgrw (fun e => by have h1 := hHeld.1; have h2 := hHeld.2.2.2.1; obtain ⟨_, ⟨_, _, h3, _⟩, _⟩ := h2; rw [← Option.some.inj e] at h3; rw [h1] at h3; cases h3))
      clear hmap hgrw hHeld
      refine hK.out _ _ ?_
      clear hK K
      refine done_ (done_of HT_.out (by kernel_rfl)) ?_
      try clear hHeld
      go_wp2_with fail
      go_roundg gk
      case measure => omega
      case rel =>
        have hw1 : wrap64 (x + 1) = x + 1 := by have := HP0.out; have := HQ0.out; have := HX.out; unfold wrap64; omega
        have ht1 : (x + 1).toNat = x.toNat + 1 := by have := HP0.out; omega
        exact ⟨x + 1, by first | rfl | (rw [hw1]), ⟨by have := HXK.out; omega⟩, BD5, BV5, ⟨by
          rw [ht1, hel.out, lastM_snoc]
          have hlt : (ps.take x.toNat).length = x.toNat := by rw [List.length_take]; have := HP0.out; have := HQ0.out; omega
          rw [hlt, Int.toNat_of_nonneg HP0.out]
          exact LM5.out⟩, HB5⟩
end Go.Proofs.Ytlopmffdebhpfaa.G

/-! ## DoL -/
namespace Go.Proofs.Ytlopmffdebhpfaa.G
open Go.RowKit Go.Proofs.YtlopmffdebhpfaaW.PrintWords Go.Proofs.YtlopmffdebhpfaaW.PrintLast Go.Proofs.YtlopmffdebhpfaaW.PrintMore
set_option linter.unusedVariables false
/-- What a sync leaves in the sectors. -/
def syncL (safe : List (List Int)) (ps : List S185) : List (List Int) := ps.foldl (fun s p => s.set p.f0.toNat p.f1) safe
theorem syncL_length : ∀ (ps : List S185) (safe : List (List Int)), (syncL safe ps).length = safe.length
  | [], _ => rfl
  | p :: r, safe => by
    have := syncL_length r (safe.set p.f0.toNat p.f1)
    rw [List.length_set] at this
    exact this
theorem syncL_snoc (safe : List (List Int)) (ps : List S185) (p : S185) : syncL safe (ps ++ [p]) = (syncL safe ps).set p.f0.toNat p.f1 := by
  unfold syncL
  rw [List.foldl_append]
  rfl
/-- What an op does to a valid disk, and whether it can be done. -/
def doV (safe : List (List Int)) (ps : List S185) (kind at_ : Int) (data : List Int) : (List (List Int) × List S185) × Bool :=
  if kind = 1 then (if at_ < 0 then ((safe, ps), false) else if (safe.length : Int) ≤ at_ then ((safe, ps), false) else if data.length = 64 then (if 5000 ≤ ps.length then ((safe, ps), false) else ((safe, ps ++ [⟨at_, data⟩]), true)) else ((safe, ps), false))
  else if kind = 2 then (if at_ = 0 then (if data.length = 0 then ((syncL safe ps, []), true) else ((safe, ps), false)) else ((safe, ps), false)) else ((safe, ps), false)
/-- A device g, with the map b, over a disk of the call's own. -/
def DevOk (w : World) (base g b : Nat) (safe : List (List Int)) (ps : List S185) : Prop :=
  ∃ A0 c0 A1 c1 P Q, IsDev w g b A0 safe.length c0 A1 ps.length c1 ∧ IsDisk w base P Q (.slice A0 safe.length c0) (.slice A1 ps.length c1) safe ps ∧ LMap w b ps.length (lastM ps) ∧ g ≠ b ∧ base ≤ g ∧ base ≤ b
section
variable {w w0 w1 : World} {g b base n n0 n1 c0 c1 j : Nat} {A0 A1 : Option Addr} {P Q : Nat → Prop} {safe : List (List Int)} {ps : List S185} {v0 v1 u : Value} {m : Int → Option Int}
theorem D_set {cs : Array Value} {t : Nat} (h : IsDisk w base P Q v0 v1 safe ps) (hb : w.heap[g]? = some (.cells cs t (0, 0))) (ht : (∀ q, q ∈ [22, 5] → q ≠ t) ∧ ∀ q, q ∈ [185, 5] → q ≠ t) : IsDisk (w.setCell ⟨g, j, none⟩ u) base P Q v0 v1 safe ps :=
  ⟨h.1, Kd.S_set h.2.1 hb ht.1 j u, Kd.S_set h.2.2 hb ht.2 j u⟩
theorem LMap_set (h : LMap w b n m) (hgb : g ≠ b) : LMap (w.setCell ⟨g, j, none⟩ u) b n m := LMap_step h (Below.heap_setCell _ _ _ _ (Ne.symm hgb))
theorem dev_unlock (hb : w.heap[g]? = some (.cells #[.int .i32 1, .int .u32 0, .slice A0 safe.length c0, .slice A1 ps.length c1, .map (some b)] 159 (0, 0))) (hd : IsDisk w w0.heap.size P Q (.slice A0 safe.length c0) (.slice A1 ps.length c1) safe ps) (hl : LMap w b ps.length (lastM ps)) (hgb : g ≠ b) (hg : w0.heap.size ≤ g) (hbb : w0.heap.size ≤ b) (hB : Below w0.heap.size w0 w)
    (hw : w1 = w.setCell ⟨g, 0, none⟩ (.int .i32 0)) : DevOk w1 w0.heap.size g b safe ps ∧ Below w0.heap.size w0 w1 := by
  subst hw
  exact ⟨⟨A0, c0, A1, c1, P, Q, blk_put hb 0 _ rfl, D_set hd hb (by decide), LMap_set hl hgb, hgb, hg, hbb⟩, below_set hB hg⟩
theorem S_map {α : Type} {d : Kd α} {e : Nat} {ok : Nat → Prop} {v : Value} {xs : List α} (h : Kd.S d e w base ok v xs) (hl : LMap w b n m) (hg : w.grownBy w1 (some b)) : Kd.S d e w1 base ok v xs :=
  Kd.S_mono (Kd.S_grown (Kd.S_bound h) hg (fun q hq he => by
    obtain ⟨_, _, _, _, _, cells, hc⟩ := hq
    obtain ⟨D, ⟨es, clock, h1, _⟩, _⟩ := hl
    rw [Option.some.inj he, h1] at hc
    cases hc)) (fun _ hq => hq.1)
theorem LMap_ne {cs : Array Value} {t : Nat} (hl : LMap w b n m) (hb : w.heap[g]? = some (.cells cs t (0, 0))) : g ≠ b := fun e => by
  obtain ⟨D, ⟨es, clock, h1, _⟩, _⟩ := hl
  rw [e, h1] at hb
  cases hb
theorem LMap_own {α : Type} {d : Kd α} {e : Nat} {ok : Nat → Prop} {v : Value} {xs : List α} (hl : LMap w b n m) (h : Kd.S d e w base ok v xs) : some b ≠ v.ownBlock := fun he => by
  obtain ⟨cells, hc⟩ := Kd.S_typed h b he.symm
  exact LMap_ne hl hc rfl
end
/-- A function that defers: where it dies, its other slots do not matter. -/
theorem leaves_tmps {P : Program} {fn : Func} {R : Ending → World → Prop} {t1 t2 : Array Value} (hr : ∀ w, (results fn t1).run P w = (results fn t2).run P w) : ∀ (ds : List Deferred) (u : FrameMode) (w : World), Leaves P fn t1 R ds u w → Leaves P fn t2 R ds u w
  | [], .returning, w, h => by
    obtain ⟨v, h1, h2⟩ := h
    exact ⟨v, (hr w).symm.trans h1, h2⟩
  | [], .panicking _, w, h => h
  | [], .run, w, h => h
  | d :: ds, u, w, h => by
    obtain ⟨hu, fv, cap, f, args, h1, h2, h3⟩ := h
    refine ⟨hu, fv, cap, f, args, h1, h2, fun c cs hc => ?_⟩
    obtain ⟨e, u', w', fr, hR, hx⟩ := h3 c cs hc
    refine ⟨e, u', w', fr, ?_, hx⟩
    cases e with
    | returned v => exact leaves_tmps hr ds _ _ hR
    | panicked chain => exact leaves_tmps hr ds _ _ hR
    | outgrown => exact hR
theorem keep_defer {P : Program} {fn : Func} {R : Ending → World → Prop} {t N : Tmp} (hf : fn.results = #[.tmp t]) (hN : N ≠ t) {c : List PanicEntry} {a : Act} {v : Value} {w : World} (h : bodyPostD P fn R (.panic c) (a.put (some N) v) w) : bodyPostD P fn R (.panic c) a w :=
  leaves_tmps (fun w => by
    rw [results_tmp hf, results_tmp hf]
    congr 1
    simp [Act.put, Array.getD_eq_getD_getElem?, Array.getElem?_setIfInBounds_ne hN]) _ _ _ h
section
variable {P : Program} {ops : Array Oper} {o : Oper} {a : Act} {Q : Exit → Act → World → Prop}
/-- out[i] = x, a row of numbers whose blocks are none of out's; in a region that draws its order. -/
theorem S_put_step {W : World} {K : Act → World → Prop} {base g n cap : Nat} (hw : Region.wanted o (yielded ops a.tmps) = true) (hN : o.dst = none) (t : TypeId) (p x : Operand) (ho : o.op = .store t p x) (i : Int) (xs : List (List Int)) (x' : List Int) (u : Value) (okS okg : Nat → Prop) (hp : a.eval p = .pointer (some ⟨g, i.toNat, none⟩)) (hx : a.eval x = u) (hu : u.cells.toList = [u])
    (ht : (P.info? t).map (·.size) = some 1) (h1u : u.oneCell' = true) (HS : Kd.S (Kd.slice 5 (Kd.int .u8)) 22 W base okS (.slice (some ⟨g, 0, none⟩) n cap) xs) (h0 : 0 ≤ i) (h1 : i < n) (hM : Kd.R (Kd.int .u8) 5 W base okg u x') (hdis : ∀ k, okg k → ¬ okS k)
    (h : ∀ w1, Kd.S (Kd.slice 5 (Kd.int .u8)) 22 w1 base (fun k => okS k ∨ okg k) (.slice (some ⟨g, 0, none⟩) n cap) (xs.set i.toNat x') → W.grownBy w1 (some g) → K a w1) : if Region.wanted o (yielded ops a.tmps) = true then Oper.wp P o a W K Q else K (a.put none undef) W := by
  obtain ⟨inner, hown⟩ := Kd.S_own HS
  have hgS : okS g := by
    obtain ⟨f, hR⟩ := HS
    exact hR.1 g (by simp [Value.ownBlock])
  have hnx : n = xs.length := (Kd.S_reads' HS).1
  have HS2 : Kd.S (Kd.slice 5 (Kd.int .u8)) 22 W base (fun k => (okS k ∨ okg k) ∧ ¬ okg k) (.slice (some ⟨g, 0, none⟩) n cap) xs := Kd.S_mono HS (fun k hk => ⟨.inl hk, fun h2 => hdis k h2 hk⟩)
  obtain ⟨oki, c, hcl, _, _, _, _, hH⟩ := Kd.S_elem HS2 [] i h0 (by omega)
  have hc1 : c.length = 1 := hcl
  have hseg : c.take 0 ++ [u] ++ c.drop (0 + [u].length) = [u] := by
    rw [List.drop_of_length_le (by simp; omega)]
    rfl
  obtain ⟨hS, hg⟩ := Kd.S_seg (okg := okg) (okp := okg) hH h0 (by omega) (seg := [u]) (j := 0) (x' := x') (Nat.le_refl _) (by rw [hseg]; exact Kd.M_row hM) (fun k hk => .inr hk) (fun k hk => ⟨.inr hk, fun e => hdis k hk (by rw [e]; exact hgS)⟩)
  have hrun : (Instr.storeAt t (.pointer (some ⟨g, i.toNat, none⟩)) u).run P W = .ok () (W.setCells g (i.toNat * 1 + 0) [u]) := by
    rw [Nat.mul_one, Nat.add_zero]
    rcases hown.2 with ⟨hv, _⟩ | ⟨g', cap', cur, hv, hb, hh, hnc, hcm, hcs, _⟩
    · cases hv
    injection hv with ha _ hc
    injection ha with ha
    injection ha with hg'
    subst hg'; subst hc
    refine run_store_run t u [u] hh hu ht ?_ (fun q hq => by rw [List.mem_singleton.1 hq]; exact h1u)
    have hcs' : cur.size = cap * 1 := hcs
    show i.toNat + 1 ≤ cur.size
    omega
  rw [if_pos hw]
  unfold Oper.wp execOp
  simp only [ho, hp, hx, Sem.run_bind, Sem.run_pure, Result.andThen_ok, hrun]
  show K (a.put o.dst undef) _
  rw [hN]
  exact h _ hS hg
end
end Go.Proofs.Ytlopmffdebhpfaa.G

/-! ## Sec -/
namespace Go.Proofs.Ytlopmffdebhpfaa.G
open Go.RowKit Go.Proofs.YtlopmffdebhpfaaW.PrintWords Go.Proofs.YtlopmffdebhpfaaW.PrintLast Go.Proofs.YtlopmffdebhpfaaW.PrintMore
set_option linter.unusedVariables false
set_option linter.unusedSimpArgs false
end Go.Proofs.Ytlopmffdebhpfaa.G

/-! ## Lib2 -/
namespace Go.Proofs.Ytlopmffdebhpfaa.G
open Go.RowKit Go.Proofs.YtlopmffdebhpfaaW.PrintWords Go.Proofs.YtlopmffdebhpfaaW.PrintLast Go.Proofs.YtlopmffdebhpfaaW.PrintMore
set_option linter.unusedVariables false
set_option linter.unusedSimpArgs false
def slices_Clone_byte_byte.f (l0 : List Int) : Option (List Int) := if l0.length < 140737488355328 then some l0 else none
set_option maxHeartbeats 4000000 in
set_option maxRecDepth 100000 in
theorem slices_Clone_byte_byte.calls (A0 : Option Addr) (c0 : Nat) (l0 : List Int) (r : List Int) (w : World) (hr0 : Kd.C (Kd.int .u8) w A0 l0.length l0) (hc0 : l0.length ≤ c0) (h : slices_Clone_byte_byte.f l0 = some r) :
    Calls Try.prog 90 #[.slice A0 l0.length c0] w fun e w' => ∃ v0_ : Value, e = .returned (v0_) ∧ Kd.R (Kd.int .u8) 5 w' w.heap.size (fun _ => True) v0_ r ∧ Below w.heap.size w w' := by
  unfold slices_Clone_byte_byte.f at h
  split at h
  case isFalse => cases h
  rename_i hl
  obtain rfl := Option.some.inj h
  have heq := fun (w : World) (n : Nat) => Go.Lib.run_eql_slice_nil (P := Try.prog) w 22 5 A0 n c0 0 0 Try.underlying22
  cases A0 with
  | none =>
    have h0 : l0 = [] := by
      rcases Nat.eq_zero_or_pos l0.length with h0 | h0
      · exact List.eq_nil_of_length_eq_zero h0
      · obtain ⟨ad, e, _⟩ := (C_cells hr0).2.2 h0
        cases e
    subst h0
    go_enter Try.func90, Try.ntmps90
    go_wp2_with fail
    go_ret
    exact ⟨_, rfl, Kd.R_nil _ _ _ _ _, by first | exact Below.refl _ _ | exact below_drew1 (Below.refl _ _)⟩
  | some ad =>
    have HR0 := Aside0.mk hr0
    clear hr0
    have LM := Aside0.mk hl
    clear hl
    go_enter Try.func90, Try.ntmps90
    go_wp2_with (first | ((with_reducible refine gate_dst (N := 5) rfl ?_); refine Kd.R_lit (Kd.int .u8) _ 5 ?hg (N := 5) ?hd (xs := ([] : List Int)) (inner := []) (ok := fun _ => True) (okp := fun _ => True) ?hr ?hp (fun _ hk => hk) trivial (Below.refl _ _) (Nat.le_refl _) (by simp) ?_; (case hd => rfl); (case hg => rfl); (case hr => first | (go_simp; done) | (go_simp; rfl)); (case hp => exact (Reps.none _ _)); intro v5 w3 ho5 hb hg_ hnew_; clear hg_ hnew_; have HO5 := Aside0.mk ho5; have HB := Aside0.mk hb; clear ho5 hb) | ((with_reducible refine gate_builtin (b := .append) (xs := #[.tmp 5, .tmp 6]) rfl ?_); at_builtin; refine Kd.R_append_rows (Kd.int .u8) (w0 := w) w.heap.size rfl (.tmp 5) (.tmp 6) 22 5 (.int .u8 0) 1 rfl Try.underlying22 info5 rfl (by decide) (by omega) v5 [] l0 _ _ _ (fun _ => True) (fun _ => False) rfl rfl ?aO ?aR (fun _ _ h => h) (fun _ h => h.elim) ?aF ?aB ?aS ?aL ?_; (case aR => exact Kd.C_below HR0.out (by exact HB.out)); (case aB => exact HB.out); (case aF => exact (fun _ _ => trivial)); (case aO => exact HO5.out); (case aS => exact HB.out.size); (case aL => have := LM.out; simp; omega); intro v7 w5 ho hb hg hat; have HO7 := Aside0.mk ho; have HB7 := Aside0.mk hb; clear ho hb hg hat))
    go_ret
    exact ⟨_, rfl, HO7.out, HB7.out⟩
end Go.Proofs.Ytlopmffdebhpfaa.G

/-! ## Do -/
namespace Go.Proofs.Ytlopmffdebhpfaa.G
open Go.RowKit Go.Proofs.YtlopmffdebhpfaaW.PrintWords Go.Proofs.YtlopmffdebhpfaaW.PrintLast Go.Proofs.YtlopmffdebhpfaaW.PrintMore
set_option linter.unusedVariables false
set_option linter.unusedSimpArgs false
def impl_do.T7 : Bool × List (List Nat × List Nat) := (true, [([], []), ([0], [0]), ([1], [1]), ([2], [2]), ([], []), ([4], [4]), ([], []), ([6], [6]), ([7], [7]), ([8], [8]), ([9], [9]), ([10], [10]), ([3, 5, 11, 0, 1, 2, 3, 4, 5, 6, 7, 8, 9, 10, 11], [3, 5, 11])])
def impl_do.B7 : List Nat := [0, 1, 3, 7, 0, 16, 0, 64, 192, 448, 960, 1984, 4095]
theorem impl_do.tab7 : rtab .any (opsOf Try.f110 7) = impl_do.T7 := by kernel_rfl
theorem impl_do.bits7 : waitsOk impl_do.T7.2 impl_do.B7 = true := by kernel_rfl
def impl_do.T8 : Bool × List (List Nat × List Nat) := (true, [([], []), ([], []), ([1], [1]), ([2], [2]), ([3], [3]), ([4], [4]), ([], []), ([6], [6]), ([], []), ([8], [8]), ([9], [9]), ([7, 10], [7, 10]), ([11], [11]), ([5, 12, 10], [5, 12]), ([0, 0, 1, 2, 3, 4, 5, 6, 7, 8, 9, 10, 11, 12, 13], [0]), ([14, 0, 1, 2, 3, 4, 5, 6, 7, 8, 9, 10, 11, 12, 13], [14]), ([15, 0, 1, 2, 3, 4, 5, 6, 7, 8, 9, 10, 11, 12, 13], [15]), ([16, 13, 13, 0, 1, 2, 3, 4, 5, 6, 7, 8, 9, 10, 11, 12, 13], [13, 16])])
def impl_do.B8 : List Nat := [0, 0, 2, 6, 14, 30, 0, 64, 0, 256, 768, 1984, 4032, 8190, 16383, 32767, 65535, 131071]
theorem impl_do.tab8 : rtab .any (opsOf Try.f110 8) = impl_do.T8 := by kernel_rfl
theorem impl_do.bits8 : waitsOk impl_do.T8.2 impl_do.B8 = true := by kernel_rfl
def impl_do.T16 : Bool × List (List Nat × List Nat) := (true, [([], []), ([0], [0]), ([1], [1]), ([2], [2]), ([3], [3]), ([], []), ([5], [5]), ([], []), ([7], [7]), ([4, 6, 0, 1, 2, 3, 4, 5, 6, 7, 8], [4, 6]), ([9, 8, 0, 1, 2, 3, 4, 5, 6, 7, 8], [8, 9])])
def impl_do.B16 : List Nat := [0, 1, 3, 7, 15, 0, 32, 0, 128, 511, 1023]
theorem impl_do.tab16 : rtab .any (opsOf Try.f110 16) = impl_do.T16 := by kernel_rfl
theorem impl_do.bits16 : waitsOk impl_do.T16.2 impl_do.B16 = true := by kernel_rfl
set_option maxHeartbeats 16000000 in
set_option maxRecDepth 100000 in
theorem impl_do.calls (g b : Nat) (safe : List (List Int)) (ps : List S185) (kind at_ : Int) (Ad : Option Addr) (cd : Nat) (data : List Int) (w0 w : World) (hD : DevOk w w0.heap.size g b safe ps) (hB : Below w0.heap.size w0 w) (hr : Kd.C (Kd.int .u8) w0 Ad data.length data) (hc : data.length ≤ cd) (hwa : (Lit.int .i64 at_).wf = true)
    (hps : ps.length ≤ 1048576) (hsl : safe.length ≤ 1048576) (hrg : ∀ p ∈ ps, 0 ≤ p.f0 ∧ p.f0 < (safe.length : Int)) :
    Calls Try.prog 110 #[.pointer (some ⟨g, 0, none⟩), .agg #[.int .i64 kind, .int .i64 at_, .slice Ad data.length cd]] w fun e w' => e = .returned (.bool (doV safe ps kind at_ data).2) ∧ DevOk w' w0.heap.size g b (doV safe ps kind at_ data).1.1 (doV safe ps kind at_ data).1.2 ∧ Below w0.heap.size w0 w' := by
  have hu44 := Try.underlying44
  have hu63 := Try.underlying63
  have hu159 := Try.underlying159
  have hu185 := Try.underlying185
  obtain ⟨⟨⟨sf, pf⟩, rf⟩, hdo⟩ : ∃ r, doV safe ps kind at_ data = r := ⟨_, rfl⟩
  rw [hdo]
  dsimp only
  obtain ⟨A0, c0, A1, c1, P, Q, hd, hdk, hl, hgb, hg, hbb⟩ := hD
  have HDO := Aside0.mk hdo
  have HR := Aside0.mk hr
  have HC := Aside0.mk hc
  have HWA := Aside0.mk hwa
  have HPS := Aside0.mk hps
  have HSL := Aside0.mk hsl
  have HRG := Aside0.mk hrg
  have HGB := Aside0.mk hgb
  have HG := Aside0.mk hg
  have HBB := Aside0.mk hbb
  have HB := Aside0.mk hB
  have HD := Aside0.mk hdk
  have HL := Aside0.mk hl
  have HDV := Aside0.mk hd
  have HDVW := Aside0.mk (show w.heap[g]? = _ from hd)
  clear hr hc hwa hps hsl hrg hg hbb hB hdk hl hd hdo
  go_enter_defers Try.func110, Try.ntmps110
  go_wp2_with (first | ((with_reducible refine gate_dst (N := 3) rfl ?_); refine box_event ?hg (N := 3) ?hd (cs := #[.int .i64 kind, .int .i64 at_, .slice Ad data.length cd]) (t := 63) ?hr ?_; (case hd => rfl); (case hg => rfl); (case hr => first | (go_simp; done) | (go_simp; rfl)); intro g3 hgr w1 hbox hbel; have BP := Aside0.mk hbox; have HDV := Aside0.mk (show IsDev w1 g b A0 safe.length c0 A1 ps.length c1 from blk_below HDV.out hbel); have NPG : Aside0 (g3 ≠ g) := ⟨by have := blk_lt (show w.heap[g]? = _ from HDVW.out); omega⟩; have HD := Aside0.mk (IsDisk_below HD.out hbel); have HL := Aside0.mk (LMap_step HL.out (hbel.block b (LMap_lt HL.out))); have HB := Aside0.mk (below_step HB.out hbel); have hc0 : w1.cell? ⟨g, 0, none⟩ = some (.int .i32 0) := (blk_cell HDV.out 0).trans rfl; have hf0 := blk_frozen HDV.out 0; clear hbox hbel hgr))
  refine (Go.MuLone.lock_free muLib ⟨g, 0, none⟩ _ hc0 hf0).mono ?_
  rintro e w2 ⟨rfl, hw1⟩
  have BG : Aside0 (w2.heap[g]? = some (.cells #[.int .i32 1, .int .u32 0, .slice A0 safe.length c0, .slice A1 ps.length c1, .map (some b)] 159 (0, 0))) := ⟨by rw [hw1]; exact blk_put HDV.out 0 _ rfl⟩
  have HB := Aside0.mk (show Below w0.heap.size w0 w2 by rw [hw1]; exact below_set HB.out HG.out)
  have HL := Aside0.mk (show LMap w2 b ps.length (lastM ps) from by rw [hw1]; exact LMap_set HL.out HGB.out)
  have HD := Aside0.mk (show IsDisk w2 w0.heap.size P Q (.slice A0 safe.length c0) (.slice A1 ps.length c1) safe ps by rw [hw1]; exact D_set HD.out HDV.out (by decide))
  have BP : Aside0 (w2.heap[g3]? = some (.cells #[.int .i64 kind, .int .i64 at_, .slice Ad data.length cd] 63 (0, 0))) := ⟨by rw [hw1]; exact (Below.heap_setCell _ _ _ _ NPG.out).trans BP.out⟩
  clear hc0 hf0 hw1 HDV
  have cg0 : w2.cell? ⟨g, 0, none⟩ = some (.int .i32 1) := (blk_cell BG.out 0).trans rfl
  have cg1 : w2.cell? ⟨g, 1, none⟩ = some (.int .u32 0) := (blk_cell BG.out 1).trans rfl
  have cg2 : w2.cell? ⟨g, 2, none⟩ = some (.slice A0 safe.length c0) := (blk_cell BG.out 2).trans rfl
  have cg3 : w2.cell? ⟨g, 3, none⟩ = some (.slice A1 ps.length c1) := (blk_cell BG.out 3).trans rfl
  have cg4 : w2.cell? ⟨g, 4, none⟩ = some (.map (some b)) := (blk_cell BG.out 4).trans rfl
  have fg0 := blk_frozen BG.out 0
  have cp0 : w2.cell? ⟨g3, 0, none⟩ = some (.int .i64 kind) := (blk_cell BP.out 0).trans rfl
  have cp1 : w2.cell? ⟨g3, 1, none⟩ = some (.int .i64 at_) := (blk_cell BP.out 1).trans rfl
  have cp2 : w2.cell? ⟨g3, 2, none⟩ = some (.slice Ad data.length cd) := (blk_cell BP.out 2).trans rfl
  have hdo := HDO.out
  unfold doV at hdo
  clear HDO
  by_cases k1 : kind = 1
  · rw [if_pos k1] at hdo
    have e1 : (kind == 1) = true := beq_iff_eq.mpr k1
    clear k1
    by_cases h0 : at_ < 0
    · rw [if_pos h0] at hdo
      have d0 : decide (at_ < 0) = true := decide_eq_true h0
      clear h0
      obtain ⟨⟨rfl, rfl⟩, rfl⟩ : (safe = sf ∧ ps = pf) ∧ false = rf := by simpa using hdo
      clear hdo
      go_wp2_with fail
      go_quiet (fail)
      go_wp2_with fail
      refine leaves_cons (f := 140) (args := #[.pointer (some ⟨g, 0, none⟩)]) (by simp) (by simp [go_sem]) ?_
      refine (Go.MuLone.unlock_deferred muLib ⟨g, 0, none⟩ .returning _ (by first | exact cg0 | simpa using cg0) (by first | exact fg0 | simpa using fg0)).mono ?_
      rintro e u' w'' ⟨rfl, rfl, hw2⟩
      refine ⟨_, results_tmp rfl _ _ _, rfl, ?_⟩
      exact dev_unlock (blk_drewN BG.out _) ⟨HD.out.1, Kd.S_drewN HD.out.2.1 _, Kd.S_drewN HD.out.2.2 _⟩ (LMap_step HL.out rfl) HGB.out HG.out HBB.out (pw_below_drewN HB.out _) hw2
    rw [if_neg h0] at hdo
    have d0 : decide (at_ < 0) = false := decide_eq_false h0
    by_cases h1 : (safe.length : Int) ≤ at_
    · rw [if_pos h1] at hdo
      have d1 : decide ((safe.length : Int) ≤ at_) = true := decide_eq_true h1
      clear h0 h1
      obtain ⟨⟨rfl, rfl⟩, rfl⟩ : (safe = sf ∧ ps = pf) ∧ false = rf := by simpa using hdo
      clear hdo
      go_wp2_with fail
      go_quiet (fail)
      go_wp2_with fail
      refine leaves_cons (f := 140) (args := #[.pointer (some ⟨g, 0, none⟩)]) (by simp) (by simp [go_sem]) ?_
      refine (Go.MuLone.unlock_deferred muLib ⟨g, 0, none⟩ .returning _ (by first | exact cg0 | simpa using cg0) (by first | exact fg0 | simpa using fg0)).mono ?_
      rintro e u' w'' ⟨rfl, rfl, hw2⟩
      refine ⟨_, results_tmp rfl _ _ _, rfl, ?_⟩
      exact dev_unlock (blk_drewN BG.out _) ⟨HD.out.1, Kd.S_drewN HD.out.2.1 _, Kd.S_drewN HD.out.2.2 _⟩ (LMap_step HL.out rfl) HGB.out HG.out HBB.out (pw_below_drewN HB.out _) hw2
    rw [if_neg h1] at hdo
    have d1 : decide ((safe.length : Int) ≤ at_) = false := decide_eq_false h1
    by_cases h2 : data.length = 64
    case neg =>
      rw [if_neg h2] at hdo
      have d2 : ((data.length : Int) != 64) = true := bne_iff_ne.mpr (by omega)
      have d3 : ((data.length : Int) == 64) = false := beq_eq_false_iff_ne.mpr (by omega)
      clear h0 h1 h2
      obtain ⟨⟨rfl, rfl⟩, rfl⟩ : (safe = sf ∧ ps = pf) ∧ false = rf := by simpa using hdo
      clear hdo
      go_wp2_with fail
      go_quiet (fail)
      go_wp2_with fail
      refine leaves_cons (f := 140) (args := #[.pointer (some ⟨g, 0, none⟩)]) (by simp) (by simp [go_sem]) ?_
      refine (Go.MuLone.unlock_deferred muLib ⟨g, 0, none⟩ .returning _ (by first | exact cg0 | simpa using cg0) (by first | exact fg0 | simpa using fg0)).mono ?_
      rintro e u' w'' ⟨rfl, rfl, hw2⟩
      refine ⟨_, results_tmp rfl _ _ _, rfl, ?_⟩
      exact dev_unlock (blk_drewN BG.out _) ⟨HD.out.1, Kd.S_drewN HD.out.2.1 _, Kd.S_drewN HD.out.2.2 _⟩ (LMap_step HL.out rfl) HGB.out HG.out HBB.out (pw_below_drewN HB.out _) hw2
    rw [if_pos h2] at hdo
    have d2 : ((data.length : Int) != 64) = false := bne_eq_false_iff_eq.mpr (by omega)
    have d3 : ((data.length : Int) == 64) = true := beq_iff_eq.mpr (by omega)
    by_cases h3 : 5000 ≤ ps.length
    · rw [if_pos h3] at hdo
      have d4 : decide ((5000 : Int) ≤ (ps.length : Int)) = true := decide_eq_true (by omega)
      clear h0 h1 h2 h3
      obtain ⟨⟨rfl, rfl⟩, rfl⟩ : (safe = sf ∧ ps = pf) ∧ false = rf := by simpa using hdo
      clear hdo
      go_wp2_with fail
      go_quiet (fail)
      go_wp2_with fail
      refine leaves_cons (f := 140) (args := #[.pointer (some ⟨g, 0, none⟩)]) (by simp) (by simp [go_sem]) ?_
      refine (Go.MuLone.unlock_deferred muLib ⟨g, 0, none⟩ .returning _ (by first | exact cg0 | simpa using cg0) (by first | exact fg0 | simpa using fg0)).mono ?_
      rintro e u' w'' ⟨rfl, rfl, hw2⟩
      refine ⟨_, results_tmp rfl _ _ _, rfl, ?_⟩
      exact dev_unlock (blk_drewN BG.out _) ⟨HD.out.1, Kd.S_drewN HD.out.2.1 _, Kd.S_drewN HD.out.2.2 _⟩ (LMap_step HL.out rfl) HGB.out HG.out HBB.out (pw_below_drewN HB.out _) hw2
    rw [if_neg h3] at hdo
    have d4 : decide ((5000 : Int) ≤ (ps.length : Int)) = false := decide_eq_false (by omega)
    have HDL := Aside0.mk h2
    clear h0 h1 h2 h3
    obtain ⟨⟨rfl, rfl⟩, rfl⟩ : (safe = sf ∧ ps ++ [⟨at_, data⟩] = pf) ∧ true = rf := by simpa using hdo
    clear hdo
    go_wp2_with fail
    go_quiet (fail)
    go_wp2_with fail
    have BG := Aside0.mk (blk_drewN BG.out nq)
    have BP := Aside0.mk (blk_drewN BP.out nq)
    have HD := Aside0.mk (show IsDisk (w2.drewN nq) w0.heap.size P Q (.slice A0 safe.length c0) (.slice A1 ps.length c1) safe ps from ⟨HD.out.1, Kd.S_drewN HD.out.2.1 _, Kd.S_drewN HD.out.2.2 _⟩)
    have HL := Aside0.mk (show LMap (w2.drewN nq) b ps.length (lastM ps) from LMap_step HL.out rfl)
    have HB := Aside0.mk (pw_below_drewN HB.out nq)
    clear cg0 cg1 cg2 cg3 cg4 cp0 cp1 cp2 fg0 d0 d1 d2 d3 d4
    generalize w2.drewN nq = w3 at BG BP HD HL HB ⊢
    refine start_ (n := 13) (S := fun w' => w'.cell? ⟨g, 3, none⟩ = some (.slice A1 ps.length c1) ∧ w'.cell? ⟨g, 4, none⟩ = some (.map (some b)) ∧ w'.cell? ⟨g3, 1, none⟩ = some (.int .i64 at_)) (ds := [12]) #[false, false, false, false, false, false, false, false, false, false, false, false, false] (by kernel_rfl) rfl rfl (⟨(blk_cell BG.out 3).trans rfl, (blk_cell BG.out 4).trans rfl, (blk_cell BP.out 1).trans rfl⟩) (fun hHeld => ?_); refine with_tabW impl_do.tab7 impl_do.bits7 (fun HT_ HW_ => ?_)
    have BG := Aside0.mk (blk_drew BG.out)
    have BP := Aside0.mk (blk_drew BP.out)
    have HL := Aside0.mk (show LMap _ b ps.length (lastM ps) from LMap_step HL.out rfl)
    have HB := Aside0.mk (below_drew1 HB.out)
    have HD := Aside0.mk (show IsDisk w3.drew w0.heap.size P Q (.slice A0 safe.length c0) (.slice A1 ps.length c1) safe ps from ⟨HD.out.1, Kd.S_drew HD.out.2.1, Kd.S_drew HD.out.2.2⟩)
    refine pure_ (i := 0) (N := some 47) (v := ?_) (a' := ?_) #[true, false, false, false, false, false, false, false, false, false, false, false, false] rfl rfl (any_of HT_.out (by kernel_rfl)) (fun _ _ _ h => keep_defer rfl (by decide) h) (Or.inl ⟨by rfl, ?_⟩) ?_ ?_
    rotate_left
    · intro w'
      go_simp
      with_reducible rfl
    rotate_left
    · simp only [Act.put, List.setIfInBounds_toArray, List.set_cons_zero, List.set_cons_succ, i64_w, i32_w]
      rfl
    refine pure_ (i := 1) (N := some 48) (v := ?_) (a' := ?_) #[true, true, false, false, false, false, false, false, false, false, false, false, false] rfl rfl (any_of HT_.out (by kernel_rfl)) (fun _ _ _ h => keep_defer rfl (by decide) h) (Or.inl ⟨by rfl, ?_⟩) ?_ ?_
    rotate_left
    · intro w'
      go_simp
      with_reducible rfl
    rotate_left
    · simp only [Act.put, List.setIfInBounds_toArray, List.set_cons_zero, List.set_cons_succ, i64_w, i32_w]
      rfl
    refine pure_ (i := 2) (N := some 49) (v := ?_) (a' := ?_) #[true, true, true, false, false, false, false, false, false, false, false, false, false] rfl rfl (any_of HT_.out (by kernel_rfl)) (fun _ _ _ h => keep_defer rfl (by decide) h) (Or.inl ⟨by rfl, ?_⟩) ?_ ?_
    rotate_left
    · intro w'
      go_simp
      with_reducible rfl
    rotate_left
    · simp only [Act.put, List.setIfInBounds_toArray, List.set_cons_zero, List.set_cons_succ, i64_w, i32_w]
      rfl
    refine pure_ (i := 4) (N := some 51) (v := ?_) (a' := ?_) #[true, true, true, false, true, false, false, false, false, false, false, false, false] rfl rfl (any_of HT_.out (by kernel_rfl)) (fun _ _ _ h => keep_defer rfl (by decide) h) (Or.inl ⟨by rfl, ?_⟩) ?_ ?_
    rotate_left
    · intro w'
      go_simp
      with_reducible rfl
    rotate_left
    · simp only [Act.put, List.setIfInBounds_toArray, List.set_cons_zero, List.set_cons_succ, i64_w, i32_w]
      rfl
    refine pure_ (i := 6) (N := some 53) (v := ?_) (a' := ?_) #[true, true, true, false, true, false, true, false, false, false, false, false, false] rfl rfl (any_of HT_.out (by kernel_rfl)) (fun _ _ _ h => keep_defer rfl (by decide) h) (Or.inl ⟨by rfl, ?_⟩) ?_ ?_
    rotate_left
    · intro w'
      go_simp
      with_reducible rfl
    rotate_left
    · simp only [Act.put, List.setIfInBounds_toArray, List.set_cons_zero, List.set_cons_succ, i64_w, i32_w]
      rfl
    refine pure_ (i := 7) (N := some 54) (v := ?_) (a' := ?_) #[true, true, true, false, true, false, true, true, false, false, false, false, false] rfl rfl (any_of HT_.out (by kernel_rfl)) (fun _ _ _ h => keep_defer rfl (by decide) h) (Or.inl ⟨by rfl, ?_⟩) ?_ ?_
    rotate_left
    · intro w'
      go_simp
      with_reducible rfl
    rotate_left
    · simp only [Act.put, List.setIfInBounds_toArray, List.set_cons_zero, List.set_cons_succ, i64_w, i32_w]
      rfl
    refine pure_ (i := 8) (N := some 55) (v := ?_) (a' := ?_) #[true, true, true, false, true, false, true, true, true, false, false, false, false] rfl rfl (any_of HT_.out (by kernel_rfl)) (fun _ _ _ h => keep_defer rfl (by decide) h) (Or.inl ⟨by rfl, ?_⟩) ?_ ?_
    rotate_left
    · intro w'
      go_simp
      with_reducible rfl
    rotate_left
    · simp only [Act.put, List.setIfInBounds_toArray, List.set_cons_zero, List.set_cons_succ, i64_w, i32_w]
      rfl
    refine pure_ (i := 9) (N := some 56) (v := ?_) (a' := ?_) #[true, true, true, false, true, false, true, true, true, true, false, false, false] rfl rfl (any_of HT_.out (by kernel_rfl)) (fun _ _ _ h => keep_defer rfl (by decide) h) (Or.inl ⟨by rfl, ?_⟩) ?_ ?_
    rotate_left
    · intro w'
      go_simp
      with_reducible rfl
    rotate_left
    · simp only [Act.put, List.setIfInBounds_toArray, List.set_cons_zero, List.set_cons_succ, i64_w, i32_w]
      rfl
    refine take_ (i := 3) (N := some 50) (v := ?_) (a' := ?_) #[true, true, true, true, true, false, true, true, true, true, false, false, false] rfl rfl (take_ofW HT_.out HW_.out (by kernel_rfl)) (fun _ _ _ h => keep_defer rfl (by decide) h) (Or.inl ⟨by rfl, ?_⟩) hHeld ?_ ?_
    rotate_left
    · intro w' s0
      obtain ⟨s0, s1, s2⟩ := s0
      go_simp
      with_reducible rfl
    rotate_left
    · simp only [Act.put, List.setIfInBounds_toArray, List.set_cons_zero, List.set_cons_succ, i64_w, i32_w]
      rfl
    refine take_ (i := 5) (N := some 52) (v := ?_) (a' := ?_) #[true, true, true, true, true, true, true, true, true, true, false, false, false] rfl rfl (take_ofW HT_.out HW_.out (by kernel_rfl)) (fun _ _ _ h => keep_defer rfl (by decide) h) (Or.inl ⟨by rfl, ?_⟩) hHeld ?_ ?_
    rotate_left
    · intro w' s0
      obtain ⟨s0, s1, s2⟩ := s0
      go_simp
      with_reducible rfl
    rotate_left
    · simp only [Act.put, List.setIfInBounds_toArray, List.set_cons_zero, List.set_cons_succ, i64_w, i32_w]
      rfl
    refine take_ (i := 10) (N := some 57) (v := ?_) (a' := ?_) #[true, true, true, true, true, true, true, true, true, true, true, false, false] rfl rfl (take_ofW HT_.out HW_.out (by kernel_rfl)) (fun _ _ _ h => keep_defer rfl (by decide) h) (Or.inl ⟨by rfl, ?_⟩) hHeld ?_ ?_
    rotate_left
    · intro w' s0
      obtain ⟨s0, s1, s2⟩ := s0
      go_simp
      with_reducible rfl
    rotate_left
    · simp only [Act.put, List.setIfInBounds_toArray, List.set_cons_zero, List.set_cons_succ, i64_w, i32_w]
      rfl
    refine pure_ (i := 11) (N := some 58) (v := ?_) (a' := ?_) #[true, true, true, true, true, true, true, true, true, true, true, true, false] rfl rfl (any_of HT_.out (by kernel_rfl)) (fun _ _ _ h => keep_defer rfl (by decide) h) (Or.inl ⟨by rfl, ?_⟩) ?_ ?_
    rotate_left
    · intro w'
      go_simp
      with_reducible rfl
    rotate_left
    · simp only [Act.put, List.setIfInBounds_toArray, List.set_cons_zero, List.set_cons_succ, i64_w, i32_w]
      rfl
    refine last_ (i := 12) (N := none) #[true, true, true, true, true, true, true, true, true, true, true, true, true] rfl rfl (one_of HT_.out (by kernel_rfl)) (by decide) (fun K hK => ?_)
    refine map_put_step (by rfl) rfl (.tmp 50) (.tmp 52) (.tmp 58) rfl (b := b) (n := ps.length) (y := at_) (c := (ps.length : Int)) rfl rfl rfl HL.out (by have := HPS.out; unfold maxLen; omega) HWA.out (WalkArith.wf_i64 (by have := HPS.out; omega)) ?_
    intro w5 hmap hgrw
    have HD := Aside0.mk (show IsDisk w5 w0.heap.size P Q (.slice A0 safe.length c0) (.slice A1 ps.length c1) safe ps from ⟨HD.out.1, S_map HD.out.2.1 HL.out hgrw, S_map HD.out.2.2 HL.out hgrw⟩)
    have BG := Aside0.mk (blk_grown BG.out hgrw (fun e => LMap_ne HL.out BG.out (Option.some.inj e)))
    have BP := Aside0.mk (blk_grown BP.out hgrw (fun e => LMap_ne HL.out BP.out (Option.some.inj e)))
    have HB := Aside0.mk (HB.out.grown hgrw HB.out.size (by intro q hq; cases hq; exact HBB.out))
    have HL := Aside0.mk hmap
    clear hmap hgrw hHeld
    refine hK.out _ _ ?_
    clear hK K
    refine done_ (done_of HT_.out (by kernel_rfl)) ?_
    try clear hHeld
    go_wp2_with fail
    obtain ⟨N0, hN0⟩ : ∃ N, N = w5.heap.size := ⟨_, rfl⟩
    have HN0 : Aside0 (N0 ≤ w5.heap.size) := ⟨Nat.le_of_eq hN0⟩
    have HDJ := Aside0.mk HD.out.1
    have HS0 := Aside0.mk (Kd.S_mono (Kd.S_bound HD.out.2.1) (ok' := fun q => P q ∧ q < N0) (fun q hq => ⟨hq.1, by have := hq.2.2.1; omega⟩))
    have HS1 := Aside0.mk (Kd.S_mono HD.out.2.2 (ok' := fun q => Q q ∨ N0 ≤ q) (fun q hq => .inl hq))
    clear hN0 HD
    refine start_ (n := 18) (S := fun w' => w'.cell? ⟨g, 3, none⟩ = some (.slice A1 ps.length c1) ∧ w'.cell? ⟨g3, 1, none⟩ = some (.int .i64 at_) ∧ w'.cell? ⟨g3, 2, none⟩ = some (.slice Ad data.length cd)) (ds := [17]) #[false, false, false, false, false, false, false, false, false, false, false, false, false, false, false, false, false, false] (by kernel_rfl) rfl rfl (⟨(blk_cell BG.out 3).trans rfl, (blk_cell BP.out 1).trans rfl, (blk_cell BP.out 2).trans rfl⟩) (fun hHeld => ?_); refine with_tabW impl_do.tab8 impl_do.bits8 (fun HT_ HW_ => ?_)
    have BG := Aside0.mk (blk_drew BG.out)
    have BP := Aside0.mk (blk_drew BP.out)
    have HL := Aside0.mk (show LMap _ b (ps.length + 1) (fun z => if z = at_ then some (ps.length : Int) else lastM ps z) from LMap_step HL.out rfl)
    have HB := Aside0.mk (below_drew1 HB.out)
    have HS0 := Aside0.mk (Kd.S_drew HS0.out)
    have HS1 := Aside0.mk (Kd.S_drew HS1.out)
    refine pure_ (i := 0) (N := some 59) (v := ?_) (a' := ?_) #[true, false, false, false, false, false, false, false, false, false, false, false, false, false, false, false, false, false] rfl rfl (any_of HT_.out (by kernel_rfl)) (fun _ _ _ h => keep_defer rfl (by decide) h) (Or.inl ⟨by rfl, ?_⟩) ?_ ?_
    rotate_left
    · intro w'
      go_simp
      with_reducible rfl
    rotate_left
    · simp only [Act.put, List.setIfInBounds_toArray, List.set_cons_zero, List.set_cons_succ, i64_w, i32_w]
      rfl
    refine pure_ (i := 1) (N := some 60) (v := ?_) (a' := ?_) #[true, true, false, false, false, false, false, false, false, false, false, false, false, false, false, false, false, false] rfl rfl (any_of HT_.out (by kernel_rfl)) (fun _ _ _ h => keep_defer rfl (by decide) h) (Or.inl ⟨by rfl, ?_⟩) ?_ ?_
    rotate_left
    · intro w'
      go_simp
      with_reducible rfl
    rotate_left
    · simp only [Act.put, List.setIfInBounds_toArray, List.set_cons_zero, List.set_cons_succ, i64_w, i32_w]
      rfl
    refine pure_ (i := 2) (N := some 61) (v := ?_) (a' := ?_) #[true, true, true, false, false, false, false, false, false, false, false, false, false, false, false, false, false, false] rfl rfl (any_of HT_.out (by kernel_rfl)) (fun _ _ _ h => keep_defer rfl (by decide) h) (Or.inl ⟨by rfl, ?_⟩) ?_ ?_
    rotate_left
    · intro w'
      go_simp
      with_reducible rfl
    rotate_left
    · simp only [Act.put, List.setIfInBounds_toArray, List.set_cons_zero, List.set_cons_succ, i64_w, i32_w]
      rfl
    refine pure_ (i := 3) (N := some 62) (v := ?_) (a' := ?_) #[true, true, true, true, false, false, false, false, false, false, false, false, false, false, false, false, false, false] rfl rfl (any_of HT_.out (by kernel_rfl)) (fun _ _ _ h => keep_defer rfl (by decide) h) (Or.inl ⟨by rfl, ?_⟩) ?_ ?_
    rotate_left
    · intro w'
      go_simp
      with_reducible rfl
    rotate_left
    · simp only [Act.put, List.setIfInBounds_toArray, List.set_cons_zero, List.set_cons_succ, i64_w, i32_w]
      rfl
    refine pure_ (i := 4) (N := some 63) (v := ?_) (a' := ?_) #[true, true, true, true, true, false, false, false, false, false, false, false, false, false, false, false, false, false] rfl rfl (any_of HT_.out (by kernel_rfl)) (fun _ _ _ h => keep_defer rfl (by decide) h) (Or.inl ⟨by rfl, ?_⟩) ?_ ?_
    rotate_left
    · intro w'
      go_simp
      with_reducible rfl
    rotate_left
    · simp only [Act.put, List.setIfInBounds_toArray, List.set_cons_zero, List.set_cons_succ, i64_w, i32_w]
      rfl
    refine pure_ (i := 6) (N := some 65) (v := ?_) (a' := ?_) #[true, true, true, true, true, false, true, false, false, false, false, false, false, false, false, false, false, false] rfl rfl (any_of HT_.out (by kernel_rfl)) (fun _ _ _ h => keep_defer rfl (by decide) h) (Or.inl ⟨by rfl, ?_⟩) ?_ ?_
    rotate_left
    · intro w'
      go_simp
      with_reducible rfl
    rotate_left
    · simp only [Act.put, List.setIfInBounds_toArray, List.set_cons_zero, List.set_cons_succ, i64_w, i32_w]
      rfl
    refine pure_ (i := 8) (N := some 67) (v := ?_) (a' := ?_) #[true, true, true, true, true, false, true, false, true, false, false, false, false, false, false, false, false, false] rfl rfl (any_of HT_.out (by kernel_rfl)) (fun _ _ _ h => keep_defer rfl (by decide) h) (Or.inl ⟨by rfl, ?_⟩) ?_ ?_
    rotate_left
    · intro w'
      go_simp
      with_reducible rfl
    rotate_left
    · simp only [Act.put, List.setIfInBounds_toArray, List.set_cons_zero, List.set_cons_succ, i64_w, i32_w]
      rfl
    refine take_ (i := 5) (N := some 64) (v := ?_) (a' := ?_) #[true, true, true, true, true, true, true, false, true, false, false, false, false, false, false, false, false, false] rfl rfl (take_ofW HT_.out HW_.out (by kernel_rfl)) (fun _ _ _ h => keep_defer rfl (by decide) h) (Or.inl ⟨by rfl, ?_⟩) hHeld ?_ ?_
    rotate_left
    · intro w' s0
      obtain ⟨s0, s1, s2⟩ := s0
      go_simp
      with_reducible rfl
    rotate_left
    · simp only [Act.put, List.setIfInBounds_toArray, List.set_cons_zero, List.set_cons_succ, i64_w, i32_w]
      rfl
    refine take_ (i := 7) (N := some 66) (v := ?_) (a' := ?_) #[true, true, true, true, true, true, true, true, true, false, false, false, false, false, false, false, false, false] rfl rfl (take_ofW HT_.out HW_.out (by kernel_rfl)) (fun _ _ _ h => keep_defer rfl (by decide) h) (Or.inl ⟨by rfl, ?_⟩) hHeld ?_ ?_
    rotate_left
    · intro w' s0
      obtain ⟨s0, s1, s2⟩ := s0
      go_simp
      with_reducible rfl
    rotate_left
    · simp only [Act.put, List.setIfInBounds_toArray, List.set_cons_zero, List.set_cons_succ, i64_w, i32_w]
      rfl
    refine take_ (i := 9) (N := some 68) (v := ?_) (a' := ?_) #[true, true, true, true, true, true, true, true, true, true, false, false, false, false, false, false, false, false] rfl rfl (take_ofW HT_.out HW_.out (by kernel_rfl)) (fun _ _ _ h => keep_defer rfl (by decide) h) (Or.inl ⟨by rfl, ?_⟩) hHeld ?_ ?_
    rotate_left
    · intro w' s0
      obtain ⟨s0, s1, s2⟩ := s0
      go_simp
      with_reducible rfl
    rotate_left
    · simp only [Act.put, List.setIfInBounds_toArray, List.set_cons_zero, List.set_cons_succ, i64_w, i32_w]
      rfl
    refine one_ (i := 10) (N := some 69) #[true, true, true, true, true, true, true, true, true, true, true, false, false, false, false, false, false, false] rfl rfl (one_of HT_.out (by kernel_rfl)) (by decide) (fun K hK => ?_)
    refine goes_ Try.func90 (by kernel_rfl) rfl #[.slice Ad data.length cd] (by rfl) rfl rfl (by first | rfl | (simp only [List.map_toArray, List.map_cons, List.map_nil]; first | done | rfl)) ?_
    refine (slices_Clone_byte_byte.calls Ad cd data data _ (Kd.C_below HR.out HB.out) HC.out (by unfold slices_Clone_byte_byte.f; rw [if_pos (by have := HDL.out; omega)])).mono ?_
    rintro e w6 ⟨v, rfl, ho, hb⟩
    refine ⟨_, rfl, ?_⟩
    have HCD := Aside0.mk (Kd.R_lower ho HB.out.size)
    have HCB : Aside0 (∀ q, v.ownBlock = some q → N0 ≤ q) := ⟨fun q hq => Nat.le_trans HN0.out (Kd.R_base ho q hq)⟩
    have HS1 := Aside0.mk (Kd.S_elder' HS1.out (Kd.R_base ho) hb)
    have HS0 := Aside0.mk (Kd.S_below HS0.out hb)
    have HN0 : Aside0 (N0 ≤ w6.heap.size) := ⟨Nat.le_trans HN0.out hb.size⟩
    have BG := Aside0.mk (blk_below BG.out hb)
    have BP := Aside0.mk (blk_below BP.out hb)
    have HL := Aside0.mk (LMap_step HL.out (hb.block b (LMap_lt HL.out)))
    have HB := Aside0.mk (below_step HB.out hb)
    clear hb ho hHeld
    obtain ⟨Ac, cc, rfl⟩ := Kd.R_slice HCD.out
    refine hK.out _ _ (⟨(blk_cell BG.out 3).trans rfl, (blk_cell BP.out 1).trans rfl, (blk_cell BP.out 2).trans rfl⟩) (fun hHeld => ?_)
    clear hK K
    refine norm_ (a' := ?_) ?_ ?_
    rotate_left
    · show Act.put _ (some 69) _ = _
      simp only [Act.put, List.setIfInBounds_toArray, List.set_cons_zero, List.set_cons_succ, i64_w, i32_w]
      rfl
    refine pure_ (i := 11) (N := some 70) (v := ?_) (a' := ?_) #[true, true, true, true, true, true, true, true, true, true, true, true, false, false, false, false, false, false] rfl rfl (any_of HT_.out (by kernel_rfl)) (fun _ _ _ h => keep_defer rfl (by decide) h) (Or.inl ⟨by rfl, ?_⟩) ?_ ?_
    rotate_left
    · intro w'
      go_simp
      with_reducible rfl
    rotate_left
    · simp only [Act.put, List.setIfInBounds_toArray, List.set_cons_zero, List.set_cons_succ, i64_w, i32_w]
      rfl
    refine one_ (i := 12) (N := some 71) #[true, true, true, true, true, true, true, true, true, true, true, true, true, false, false, false, false, false] rfl rfl (one_of HT_.out (by kernel_rfl)) (by decide) (fun K hK => ?_)
    refine value_ (w1 := ?_) (v := ?_) (by rfl) rfl ?_ ?_
    rotate_left 2
    · go_simp
      constructor
      · rfl
      · rfl
    refine hK.out _ _ (⟨(blk_cell (blk_alloc BG.out _) 3).trans rfl, (blk_cell (blk_alloc BP.out _) 1).trans rfl, (blk_cell (blk_alloc BP.out _) 2).trans rfl⟩) (fun hHeld => ?_)
    clear hK K
    refine norm_ (a' := ?_) ?_ ?_
    rotate_left
    · show Act.put _ (some 71) _ = _
      simp only [Act.put, List.setIfInBounds_toArray, List.set_cons_zero, List.set_cons_succ, i64_w, i32_w]
      rfl
    refine one_ (i := 13) (N := some 72) #[true, true, true, true, true, true, true, true, true, true, true, true, true, true, false, false, false, false] rfl rfl (one_of HT_.out (by kernel_rfl)) (by decide) (fun K hK => ?_)
    refine Kd.S_append_step k185 (w0 := w0) w0.heap.size (by rfl) (.tmp 64) (.tmp 71) 42 185 (.agg #[(.int .i64 0), (.slice none 0 0)]) 32 rfl Try.underlying42 info185 rfl (by decide) (by omega) (.slice A1 ps.length c1) ps (⟨at_, data⟩ : S185) [.int .i64 at_, .slice Ac data.length cc] (fun q => Q q ∨ N0 ≤ q) (fun q => some q = (.slice Ac data.length cc : Value).ownBlock) rfl rfl ?aP (fun q hq => ⟨.inr (HCB.out q hq.symm), ((Kd.R_apart' HCD.out (Kd.S_typed HS1.out) (by decide)).1 q hq.symm).2⟩) ?aF ?aO ?aB ?aS ?aL ?_
    (case aP => exact k185_mkM _ _ _ (⟨at_, data⟩ : S185) (Kd.R_tight rfl HCD.out))
    (case aB => exact HB.out)
    (case aF => exact (fun q hq => .inr (Nat.le_trans HN0.out hq)))
    (case aO => exact Kd.S_mono HS1.out (fun q hq => ⟨hq.1, fun e_ => hq.2 e_⟩))
    (case aS => exact HB.out.size)
    (case aL => have := HPS.out; omega)
    intro v7 w7 ho hb hg hat
    have BG := Aside0.mk (blk_grown BG.out hg (Kd.S_ne HS1.out BG.out (by decide)))
    have BP := Aside0.mk (blk_grown BP.out hg (Kd.S_ne HS1.out BP.out (by decide)))
    have HL := Aside0.mk (LMap_step HL.out (hg.block b (LMap_lt HL.out) (LMap_own HL.out HS1.out)))
    have HS0 := Aside0.mk (Kd.S_over' HS0.out (Kd.S_typed HS1.out) (by decide) hg)
    have HN0 : Aside0 (N0 ≤ w7.heap.size) := ⟨Nat.le_trans HN0.out hg.size⟩
    have HS1 := Aside0.mk ho
    have HB := Aside0.mk hb
    clear ho hb hg hat hHeld HCD
    obtain ⟨A6, c6, rfl⟩ := Kd.S_slice HS1.out
    refine hK.out _ _ (⟨(blk_cell BG.out 3).trans rfl, (blk_cell BP.out 1).trans rfl, (blk_cell BP.out 2).trans rfl⟩) (fun hHeld => ?_)
    clear hK K
    refine norm_ (a' := ?_) ?_ ?_
    rotate_left
    · show Act.put _ (some 72) _ = _
      simp only [Act.put, List.setIfInBounds_toArray, List.set_cons_zero, List.set_cons_succ, i64_w, i32_w]
      rfl
    refine pure_ (i := 14) (N := some 73) (v := ?_) (a' := ?_) #[true, true, true, true, true, true, true, true, true, true, true, true, true, true, true, false, false, false] rfl rfl (any_of HT_.out (by kernel_rfl)) (fun _ _ _ h => keep_defer rfl (by decide) h) (Or.inl ⟨by rfl, ?_⟩) ?_ ?_
    rotate_left
    · intro w'
      go_simp
      with_reducible rfl
    rotate_left
    · simp only [Act.put, List.setIfInBounds_toArray, List.set_cons_zero, List.set_cons_succ, i64_w, i32_w]
      rfl
    refine pure_ (i := 15) (N := some 74) (v := ?_) (a' := ?_) #[true, true, true, true, true, true, true, true, true, true, true, true, true, true, true, true, false, false] rfl rfl (any_of HT_.out (by kernel_rfl)) (fun _ _ _ h => keep_defer rfl (by decide) h) (Or.inl ⟨by rfl, ?_⟩) ?_ ?_
    rotate_left
    · intro w'
      go_simp
      with_reducible rfl
    rotate_left
    · simp only [Act.put, List.setIfInBounds_toArray, List.set_cons_zero, List.set_cons_succ, i64_w, i32_w]
      rfl
    refine pure_ (i := 16) (N := some 75) (v := ?_) (a' := ?_) #[true, true, true, true, true, true, true, true, true, true, true, true, true, true, true, true, true, false] rfl rfl (any_of HT_.out (by kernel_rfl)) (fun _ _ _ h => keep_defer rfl (by decide) h) (Or.inl ⟨by rfl, ?_⟩) ?_ ?_
    rotate_left
    · intro w'
      go_simp
      with_reducible rfl
    rotate_left
    · simp only [Act.put, List.setIfInBounds_toArray, List.set_cons_zero, List.set_cons_succ, i64_w, i32_w]
      rfl
    refine last_ (i := 17) (N := none) #[true, true, true, true, true, true, true, true, true, true, true, true, true, true, true, true, true, true] rfl rfl (one_of HT_.out (by kernel_rfl)) (by decide) (fun K hK => ?_)
    refine store_blk_step (by rfl) rfl 42 (.tmp 75) (.tmp 72) rfl (off := 3) (u := .slice A6 (ps ++ [(⟨at_, data⟩ : S185)]).length c6) #[.int .i32 1, .int .u32 0, .slice A0 safe.length c0, .slice A6 (ps ++ [(⟨at_, data⟩ : S185)]).length c6, .map (some b)] rfl rfl BG.out [.slice A6 (ps ++ [(⟨at_, data⟩ : S185)]).length c6] rfl (by kernel_rfl) (Nat.le_of_ble_eq_true rfl) rfl rfl ?_
    intro w10 hblk hgrw
    have HS1 := Aside0.mk (S_off HS1.out BG.out (by decide) hgrw)
    have HS0 := Aside0.mk (S_off HS0.out BG.out (by decide) hgrw)
    have HL := Aside0.mk (LMap_step HL.out (hgrw.block b (LMap_lt HL.out) (fun e => HGB.out (Option.some.inj e).symm)))
    have HB := Aside0.mk (HB.out.grown hgrw HB.out.size (by intro q hq; cases hq; exact HG.out))
    have BG := Aside0.mk hblk
    clear hblk hgrw hHeld BP
    refine hK.out _ _ ?_
    clear hK K
    refine done_ (done_of HT_.out (by kernel_rfl)) ?_
    try clear hHeld
    have cg0 : w10.cell? ⟨g, 0, none⟩ = some (.int .i32 1) := (blk_cell BG.out 0).trans rfl
    have fg0 := blk_frozen BG.out 0
    have HD := Aside0.mk (show IsDisk w10 w0.heap.size (fun q => P q ∧ q < N0) (fun q => Q q ∨ N0 ≤ q) (.slice A0 safe.length c0) (.slice A6 (ps ++ [(⟨at_, data⟩ : S185)]).length c6) safe (ps ++ [(⟨at_, data⟩ : S185)]) from ⟨fun q h1 h2 => h2.elim (HDJ.out q h1.1) (fun h3 => by have := h1.2; omega), HS0.out, HS1.out⟩)
    have HL := Aside0.mk (show LMap w10 b (ps ++ [(⟨at_, data⟩ : S185)]).length (lastM (ps ++ [(⟨at_, data⟩ : S185)])) from by rw [lastM_snoc, List.length_append]; exact HL.out)
    go_wp2_with fail
    refine leaves_cons (f := 140) (args := #[.pointer (some ⟨g, 0, none⟩)]) (by simp) (by simp [go_sem]) ?_
    refine (Go.MuLone.unlock_deferred muLib ⟨g, 0, none⟩ .returning _ (by first | exact cg0 | simpa using cg0) (by first | exact fg0 | simpa using fg0)).mono ?_
    rintro e u' w'' ⟨rfl, rfl, hw2⟩
    refine ⟨_, results_tmp rfl _ _ _, rfl, ?_⟩
    exact dev_unlock BG.out HD.out HL.out HGB.out HG.out HBB.out HB.out hw2
  rw [if_neg k1] at hdo
  have e1 : (kind == 1) = false := beq_eq_false_iff_ne.mpr k1
  clear k1
  by_cases k2 : kind = 2
  case neg =>
    rw [if_neg k2] at hdo
    have e2 : (kind == 2) = false := beq_eq_false_iff_ne.mpr k2
    clear k2
    obtain ⟨⟨rfl, rfl⟩, rfl⟩ : (safe = sf ∧ ps = pf) ∧ false = rf := by simpa using hdo
    clear hdo
    go_wp2_with fail
    refine leaves_cons (f := 140) (args := #[.pointer (some ⟨g, 0, none⟩)]) (by simp) (by simp [go_sem]) ?_
    refine (Go.MuLone.unlock_deferred muLib ⟨g, 0, none⟩ .returning _ (by first | exact cg0 | simpa using cg0) (by first | exact fg0 | simpa using fg0)).mono ?_
    rintro e u' w'' ⟨rfl, rfl, hw2⟩
    refine ⟨_, results_tmp rfl _ _ _, rfl, ?_⟩
    exact dev_unlock BG.out HD.out HL.out HGB.out HG.out HBB.out HB.out hw2
  rw [if_pos k2] at hdo
  have e2 : (kind == 2) = true := beq_iff_eq.mpr k2
  clear k2
  by_cases h0 : at_ = 0
  case neg =>
    rw [if_neg h0] at hdo
    have d0 : (at_ != 0) = true := bne_iff_ne.mpr h0
    have d1 : (at_ == 0) = false := beq_eq_false_iff_ne.mpr h0
    clear h0
    obtain ⟨⟨rfl, rfl⟩, rfl⟩ : (safe = sf ∧ ps = pf) ∧ false = rf := by simpa using hdo
    clear hdo
    go_wp2_with fail
    refine leaves_cons (f := 140) (args := #[.pointer (some ⟨g, 0, none⟩)]) (by simp) (by simp [go_sem]) ?_
    refine (Go.MuLone.unlock_deferred muLib ⟨g, 0, none⟩ .returning _ (by first | exact cg0 | simpa using cg0) (by first | exact fg0 | simpa using fg0)).mono ?_
    rintro e u' w'' ⟨rfl, rfl, hw2⟩
    refine ⟨_, results_tmp rfl _ _ _, rfl, ?_⟩
    exact dev_unlock BG.out HD.out HL.out HGB.out HG.out HBB.out HB.out hw2
  rw [if_pos h0] at hdo
  have d0 : (at_ != 0) = false := bne_eq_false_iff_eq.mpr h0
  have d1 : (at_ == 0) = true := beq_iff_eq.mpr h0
  clear h0
  by_cases h1 : data.length = 0
  case neg =>
    rw [if_neg h1] at hdo
    have d2 : decide (0 < (data.length : Int)) = true := decide_eq_true (by omega)
    have d3 : decide (0 < data.length) = true := decide_eq_true (by omega)
    clear h1
    obtain ⟨⟨rfl, rfl⟩, rfl⟩ : (safe = sf ∧ ps = pf) ∧ false = rf := by simpa using hdo
    clear hdo
    go_wp2_with fail
    refine leaves_cons (f := 140) (args := #[.pointer (some ⟨g, 0, none⟩)]) (by simp) (by simp [go_sem]) ?_
    refine (Go.MuLone.unlock_deferred muLib ⟨g, 0, none⟩ .returning _ (by first | exact cg0 | simpa using cg0) (by first | exact fg0 | simpa using fg0)).mono ?_
    rintro e u' w'' ⟨rfl, rfl, hw2⟩
    refine ⟨_, results_tmp rfl _ _ _, rfl, ?_⟩
    exact dev_unlock BG.out HD.out HL.out HGB.out HG.out HBB.out HB.out hw2
  rw [if_pos h1] at hdo
  have d2 : decide (0 < (data.length : Int)) = false := decide_eq_false (by omega)
  have d3 : decide (0 < data.length) = false := decide_eq_false (by omega)
  clear h1
  obtain ⟨⟨rfl, rfl⟩, rfl⟩ : (syncL safe ps = sf ∧ [] = pf) ∧ true = rf := by simpa using hdo
  clear hdo
  obtain ⟨f, HT0⟩ := HD.out.2.2
  have HT := Aside0.mk HT0
  have HS := Aside0.mk HD.out.2.1
  have HDJ := Aside0.mk HD.out.1
  clear HT0 HD
  go_wp2_with fail
  go_loopg [93] ps.length (fun gk v93 w' => ∃ x : Int, v93 = .int .i64 x ∧ Aside0 (0 ≤ x ∧ (gk : Int) + x = (ps.length : Int)) ∧ Aside0 (Kd.S (Kd.slice 5 (Kd.int .u8)) 22 w' w0.heap.size (fun q => P q ∨ (Q q ∧ f q < x.toNat ∧ some q ≠ (.slice A1 ps.length c1 : Value).ownBlock)) (.slice A0 safe.length c0) (syncL safe (ps.take x.toNat))) ∧ Aside0 ((Kd.tag f k185).R 185 w' w0.heap.size Q (.slice A1 ps.length c1) ps.zipIdx) ∧
    Aside0 (w'.heap[g]? = some (.cells #[.int .i32 1, .int .u32 0, .slice A0 safe.length c0, .slice A1 ps.length c1, .map (some b)] 159 (0, 0))) ∧ Aside0 (LMap w' b ps.length (lastM ps)) ∧ Aside0 (Below w0.heap.size w0 w'))
  case atStart =>
    exact ⟨0, rfl, ⟨by omega⟩, ⟨Kd.S_mono HS.out (ok' := fun q => P q ∨ (Q q ∧ f q < (0 : Int).toNat ∧ some q ≠ (.slice A1 ps.length c1 : Value).ownBlock)) (fun q hq => Or.inl hq)⟩, HT, BG, HL, HB⟩
  case round =>
    clear HS HT BG HL HB cg0 cg1 cg2 cg3 cg4 cp0 cp1 cp2 fg0 d0 d1 d2 d3
    obtain ⟨x, rfl, HXK, HS, HT, BG, HL, HB⟩ := hrel
    cases gk with
    | zero =>
      have hx : x = (ps.length : Int) := by have := HXK.out; omega
      subst hx
      have c4b0 : decide ((ps.length : Int) < (ps.length : Int)) = false := decide_eq_false (by omega)
      have hs := HS.out
      rw [Int.toNat_natCast, List.take_length] at hs
      have HS0 := Aside0.mk hs
      clear hs HS HT
      have cg0 : wr.cell? ⟨g, 0, none⟩ = some (.int .i32 1) := (blk_cell BG.out 0).trans rfl
      have cg1 : wr.cell? ⟨g, 1, none⟩ = some (.int .u32 0) := (blk_cell BG.out 1).trans rfl
      have cg2 : wr.cell? ⟨g, 2, none⟩ = some (.slice A0 safe.length c0) := (blk_cell BG.out 2).trans rfl
      have cg3 : wr.cell? ⟨g, 3, none⟩ = some (.slice A1 ps.length c1) := (blk_cell BG.out 3).trans rfl
      have cg4 : wr.cell? ⟨g, 4, none⟩ = some (.map (some b)) := (blk_cell BG.out 4).trans rfl
      have fg0 := blk_frozen BG.out 0
      go_wp2_with (first | ((with_reducible refine gate_ (.store 42 (.tmp 111) (.const (.slice none 0 0))) rfl ?_); refine store_blk rfl rfl 42 (.tmp 111) (.const (.slice none 0 0)) rfl (off := 3) (u := .slice none 0 0) #[.int .i32 1, .int .u32 0, .slice A0 safe.length c0, .slice none 0 0, .map (some b)] rfl rfl BG.out [.slice none 0 0] rfl (by kernel_rfl) (Nat.le_of_ble_eq_true rfl) rfl rfl ?_; intro w8 hblk hgrw; have HS0 := Aside0.mk (S_off HS0.out BG.out (by decide) hgrw); have HL := Aside0.mk (LMap_step HL.out (hgrw.block b (LMap_lt HL.out) (fun e => HGB.out (Option.some.inj e).symm))); have HB := Aside0.mk (HB.out.grown hgrw HB.out.size (by intro q hq; cases hq; exact HG.out)); have BG := Aside0.mk hblk; have cg4 : w8.cell? ⟨g, 4, none⟩ = some (.map (some b)) := (blk_cell BG.out 4).trans rfl; obtain ⟨w9, hclr, hmap, hgm⟩ := LMap_clear HL.out 0; have HS0 := Aside0.mk (S_map HS0.out HL.out hgm); have BG := Aside0.mk (blk_grown BG.out hgm (fun e => HGB.out (Option.some.inj e))); have HB := Aside0.mk (HB.out.grown hgm HB.out.size (by intro q hq; cases hq; exact HBB.out)); have HL := Aside0.mk hmap; clear hblk hgrw hmap hgm))
      have cg0 : w9.cell? ⟨g, 0, none⟩ = some (.int .i32 1) := (blk_cell BG.out 0).trans rfl
      have fg0 := blk_frozen BG.out 0
      have hsl2 : (syncL safe ps).length = safe.length := syncL_length _ _
      have BG : Aside0 (w9.heap[g]? = some (.cells #[.int .i32 1, .int .u32 0, .slice A0 (syncL safe ps).length c0, .slice none ([] : List S185).length 0, .map (some b)] 159 (0, 0))) := ⟨by rw [hsl2]; exact BG.out⟩
      have HD := Aside0.mk (show IsDisk w9 w0.heap.size _ (fun _ => False) (.slice A0 (syncL safe ps).length c0) (.slice none ([] : List S185).length 0) (syncL safe ps) [] from ⟨fun _ _ h => h, by rw [hsl2]; exact HS0.out, Kd.S_nil _ _ _ _ _⟩)
      have HL := Aside0.mk (show LMap w9 b ([] : List S185).length (lastM []) from HL.out)
      clear hsl2
      refine leaves_cons (f := 140) (args := #[.pointer (some ⟨g, 0, none⟩)]) (by simp) (by simp [go_sem]) ?_
      refine (Go.MuLone.unlock_deferred muLib ⟨g, 0, none⟩ .returning _ (by first | exact cg0 | simpa using cg0) (by first | exact fg0 | simpa using fg0)).mono ?_
      rintro e u' w'' ⟨rfl, rfl, hw2⟩
      refine ⟨_, results_tmp rfl _ _ _, rfl, ?_⟩
      exact dev_unlock BG.out HD.out HL.out HGB.out HG.out HBB.out HB.out hw2
    | succ gk =>
      have p0 : 0 ≤ x := HXK.out.1
      have q0 : x < (ps.length : Int) := by have := HXK.out; omega
      have c4b0 : decide (x < (ps.length : Int)) = true := decide_eq_true q0
      have c4b1 : decide (0 ≤ x) = true := decide_eq_true p0
      obtain ⟨gq, cq, eq, eqr⟩ := Kd.R_form HT.out (by rw [List.length_zipIdx]; omega)
      injection eq with eq1 eq2 eq3
      clear eq2 eq3 eqr
      obtain ⟨ad, had⟩ : ∃ ad : Addr, A1 = some ad := ⟨_, eq1⟩
      subst had
      obtain ⟨c, hcl, hM, hcc⟩ := Kd.R_getA HT.out (z185, 0) x p0 (by omega)
      have hze : ps.zipIdx.getD x.toNat (z185, 0) = (rd_T185 ps x, x.toNat) := by
        have hq : x.toNat < ps.length := by omega
        simp [rd_T185, List.getD_eq_getElem?_getD, List.getElem?_zipIdx, List.getElem?_eq_getElem hq]
      rw [hze] at hM
      obtain ⟨ve, hce, hE⟩ := k185_openM hM
      obtain ⟨Ae, ce, rfl⟩ := Kd.R_slice hE
      have hx0 : wr.cell? (ad.add (x.toNat * 2)) = some (.int .i64 (rd_T185 ps x).f0) := hcc 0 _ (by rw [hce]; rfl)
      have hx1 : wr.cell? ⟨(ad.add (x.toNat * 2)).block, (ad.add (x.toNat * 2)).off + 1, none⟩ = some (.slice Ae (rd_T185 ps x).f1.length ce) := by
        have h1 := hcc 1 _ (by rw [hce]; rfl)
        obtain ⟨gz, rfl⟩ := Kd.R_head HT.out
        have e2 : ((⟨gz, 0, none⟩ : Addr).add (x.toNat * (Kd.tag f k185).sz + 1)) = ⟨((⟨gz, 0, none⟩ : Addr).add (x.toNat * 2)).block, ((⟨gz, 0, none⟩ : Addr).add (x.toNat * 2)).off + 1, none⟩ := by
          rw [add_at, add_at]
          rfl
        rw [← e2]
        exact h1
      have HE := Aside0.mk (Kd.R_tight rfl hE)
      have HEO : Aside0 (∀ q, some q = (.slice Ae (rd_T185 ps x).f1.length ce : Value).ownBlock → (Q q ∧ some q ≠ (.slice (some ad) ps.length c1 : Value).ownBlock) ∧ f q = x.toNat) := ⟨fun q hq => hE.1 q hq.symm⟩
      have hpr := HRG.out _ (getD_mem (z := z185) p0 q0)
      have HPR := Aside0.mk (show 0 ≤ (rd_T185 ps x).f0 ∧ (rd_T185 ps x).f0 < (safe.length : Int) from hpr)
      have hsl2 : (syncL safe (ps.take x.toNat)).length = safe.length := syncL_length _ _
      obtain ⟨gs, cs, es, esr⟩ := Kd.S_form HS.out (by rw [hsl2]; have := hpr; omega)
      injection es with es1 es2 es3
      clear es2 es3 esr
      subst es1
      have HP0 := Aside0.mk p0
      have HQ0 := Aside0.mk q0
      have HSN := Aside0.mk hsl2
      clear hcl hM hcc hze hce hE hpr hsl2 eq1
      replace p0 := eq_true p0
      replace q0 := eq_true q0
      have cg0 : wr.cell? ⟨g, 0, none⟩ = some (.int .i32 1) := (blk_cell BG.out 0).trans rfl
      have cg1 : wr.cell? ⟨g, 1, none⟩ = some (.int .u32 0) := (blk_cell BG.out 1).trans rfl
      have cg2 : wr.cell? ⟨g, 2, none⟩ = some (.slice (some ⟨gs, 0, none⟩) safe.length c0) := (blk_cell BG.out 2).trans rfl
      have cg3 : wr.cell? ⟨g, 3, none⟩ = some (.slice (some ad) ps.length c1) := (blk_cell BG.out 3).trans rfl
      have cg4 : wr.cell? ⟨g, 4, none⟩ = some (.map (some b)) := (blk_cell BG.out 4).trans rfl
      have fg0 := blk_frozen BG.out 0
      go_wp2_with (first | ((with_reducible refine gate_dst (N := 6) rfl ?_); refine box_event ?hg (N := 6) ?hd (cs := #[.int .i64 0, .slice none 0 0]) (t := 185) ?hr ?_; (case hd => rfl); (case hg => rfl); (case hr => first | (go_simp; done) | (go_simp; rfl)); intro gp hgr w4 hbox hbel; have BE := Aside0.mk hbox; have GP := Aside0.mk hgr; have GPw : Aside0 (w0.heap.size ≤ gp) := ⟨by rw [hgr]; exact HB.out.size⟩; have HT := Aside0.mk (Kd.R_mono (Kd.R_below (Kd.R_bound HT.out) hbel) (ok' := fun q => Q q ∧ q ≠ gp) (fun q hq => ⟨hq.1, by have := hq.2.2.1; omega⟩)); have HS := Aside0.mk (Kd.S_below HS.out hbel); have HE := Aside0.mk (Kd.R_below HE.out hbel); have BG := Aside0.mk (blk_below BG.out hbel); have HL := Aside0.mk (LMap_step HL.out (hbel.block b (LMap_lt HL.out))); have HB := Aside0.mk (below_step HB.out hbel); clear hbox hbel hgr) | ((with_reducible refine gate_ (.store 185 (.tmp 6) (.tmp 96)) rfl ?_); refine store_blk rfl rfl 185 (.tmp 6) (.tmp 96) rfl (off := 0) (u := .agg #[.int .i64 (rd_T185 ps x).f0, .slice Ae (rd_T185 ps x).f1.length ce]) #[.int .i64 (rd_T185 ps x).f0, .slice Ae (rd_T185 ps x).f1.length ce] rfl rfl BE.out [.int .i64 (rd_T185 ps x).f0, .slice Ae (rd_T185 ps x).f1.length ce] rfl (by kernel_rfl) (Nat.le_of_ble_eq_true rfl) rfl rfl ?_; intro w5 hblk hgrw; have HT := Aside0.mk (Kd.R_mono (Kd.R_grown HT.out hgrw (fun q hq e => hq.2 (Option.some.inj e))) (ok' := Q) (fun q hq => hq.1)); have HS := Aside0.mk (S_off HS.out BE.out (by decide) hgrw); have HE := Aside0.mk (R_off HE.out BE.out (by decide) hgrw); have BG := Aside0.mk (blk_off BG.out BE.out (by decide) hgrw); have HL := Aside0.mk (LMap_step HL.out (hgrw.block b (LMap_lt HL.out) (fun e => LMap_ne HL.out BE.out (Option.some.inj e).symm))); have HB := Aside0.mk (HB.out.grown hgrw HB.out.size (by intro q hq; cases hq; exact GPw.out)); have BE := Aside0.mk hblk; clear hblk hgrw))
      have r0 : 0 ≤ (rd_T185 ps x).f0 := HPR.out.1
      have r1 : (rd_T185 ps x).f0 < (safe.length : Int) := HPR.out.2
      have r2 : decide ((rd_T185 ps x).f0 < (safe.length : Int)) = true := decide_eq_true r1
      have r3 : decide (0 ≤ (rd_T185 ps x).f0) = true := decide_eq_true r0
      have HR0 := Aside0.mk r0
      have HR1 := Aside0.mk r1
      replace r0 := eq_true r0
      replace r1 := eq_true r1
      refine start_ (n := 11) (S := fun w' => w'.cell? ⟨g, 2, none⟩ = some (.slice (some ⟨gs, 0, none⟩) safe.length c0) ∧ w'.cell? ⟨gp, 0, none⟩ = some (.int .i64 (rd_T185 ps x).f0) ∧ w'.cell? ⟨gp, 1, none⟩ = some (.slice Ae (rd_T185 ps x).f1.length ce)) (ds := [10]) #[false, false, false, false, false, false, false, false, false, false, false] (by kernel_rfl) rfl rfl (⟨(blk_cell BG.out 2).trans rfl, (blk_cell BE.out 0).trans rfl, (blk_cell BE.out 1).trans rfl⟩) (fun hHeld => ?_); refine with_tabW impl_do.tab16 impl_do.bits16 (fun HT_ HW_ => ?_)
      have BG := Aside0.mk (blk_drew BG.out)
      have HL := Aside0.mk (show LMap _ b ps.length (lastM ps) from LMap_step HL.out rfl)
      have HB := Aside0.mk (below_drew1 HB.out)
      have HT := Aside0.mk (Kd.R_drew HT.out)
      have HS := Aside0.mk (Kd.S_drew HS.out)
      have HE := Aside0.mk (Kd.R_drew HE.out)
      refine pure_ (i := 0) (N := some 97) (v := ?_) (a' := ?_) #[true, false, false, false, false, false, false, false, false, false, false] rfl rfl (any_of HT_.out (by kernel_rfl)) (fun _ _ _ h => keep_defer rfl (by decide) h) (Or.inl ⟨by rfl, ?_⟩) ?_ ?_
      rotate_left
      · intro w'
        go_simp
        with_reducible rfl
      rotate_left
      · simp only [Act.put, List.setIfInBounds_toArray, List.set_cons_zero, List.set_cons_succ, i64_w, i32_w]
        rfl
      refine pure_ (i := 1) (N := some 98) (v := ?_) (a' := ?_) #[true, true, false, false, false, false, false, false, false, false, false] rfl rfl (any_of HT_.out (by kernel_rfl)) (fun _ _ _ h => keep_defer rfl (by decide) h) (Or.inl ⟨by rfl, ?_⟩) ?_ ?_
      rotate_left
      · intro w'
        go_simp
        with_reducible rfl
      rotate_left
      · simp only [Act.put, List.setIfInBounds_toArray, List.set_cons_zero, List.set_cons_succ, i64_w, i32_w]
        rfl
      refine pure_ (i := 2) (N := some 99) (v := ?_) (a' := ?_) #[true, true, true, false, false, false, false, false, false, false, false] rfl rfl (any_of HT_.out (by kernel_rfl)) (fun _ _ _ h => keep_defer rfl (by decide) h) (Or.inl ⟨by rfl, ?_⟩) ?_ ?_
      rotate_left
      · intro w'
        go_simp
        with_reducible rfl
      rotate_left
      · simp only [Act.put, List.setIfInBounds_toArray, List.set_cons_zero, List.set_cons_succ, i64_w, i32_w]
        rfl
      refine pure_ (i := 3) (N := some 100) (v := ?_) (a' := ?_) #[true, true, true, true, false, false, false, false, false, false, false] rfl rfl (any_of HT_.out (by kernel_rfl)) (fun _ _ _ h => keep_defer rfl (by decide) h) (Or.inl ⟨by rfl, ?_⟩) ?_ ?_
      rotate_left
      · intro w'
        go_simp
        with_reducible rfl
      rotate_left
      · simp only [Act.put, List.setIfInBounds_toArray, List.set_cons_zero, List.set_cons_succ, i64_w, i32_w]
        rfl
      refine pure_ (i := 5) (N := some 102) (v := ?_) (a' := ?_) #[true, true, true, true, false, true, false, false, false, false, false] rfl rfl (any_of HT_.out (by kernel_rfl)) (fun _ _ _ h => keep_defer rfl (by decide) h) (Or.inl ⟨by rfl, ?_⟩) ?_ ?_
      rotate_left
      · intro w'
        go_simp
        with_reducible rfl
      rotate_left
      · simp only [Act.put, List.setIfInBounds_toArray, List.set_cons_zero, List.set_cons_succ, i64_w, i32_w]
        rfl
      refine pure_ (i := 7) (N := some 104) (v := ?_) (a' := ?_) #[true, true, true, true, false, true, false, true, false, false, false] rfl rfl (any_of HT_.out (by kernel_rfl)) (fun _ _ _ h => keep_defer rfl (by decide) h) (Or.inl ⟨by rfl, ?_⟩) ?_ ?_
      rotate_left
      · intro w'
        go_simp
        with_reducible rfl
      rotate_left
      · simp only [Act.put, List.setIfInBounds_toArray, List.set_cons_zero, List.set_cons_succ, i64_w, i32_w]
        rfl
      refine take_ (i := 4) (N := some 101) (v := ?_) (a' := ?_) #[true, true, true, true, true, true, false, true, false, false, false] rfl rfl (take_ofW HT_.out HW_.out (by kernel_rfl)) (fun _ _ _ h => keep_defer rfl (by decide) h) (Or.inl ⟨by rfl, ?_⟩) hHeld ?_ ?_
      rotate_left
      · intro w' s0
        obtain ⟨s0, s1, s2⟩ := s0
        go_simp
        with_reducible rfl
      rotate_left
      · simp only [Act.put, List.setIfInBounds_toArray, List.set_cons_zero, List.set_cons_succ, i64_w, i32_w]
        rfl
      refine take_ (i := 6) (N := some 103) (v := ?_) (a' := ?_) #[true, true, true, true, true, true, true, true, false, false, false] rfl rfl (take_ofW HT_.out HW_.out (by kernel_rfl)) (fun _ _ _ h => keep_defer rfl (by decide) h) (Or.inl ⟨by rfl, ?_⟩) hHeld ?_ ?_
      rotate_left
      · intro w' s0
        obtain ⟨s0, s1, s2⟩ := s0
        go_simp
        with_reducible rfl
      rotate_left
      · simp only [Act.put, List.setIfInBounds_toArray, List.set_cons_zero, List.set_cons_succ, i64_w, i32_w]
        rfl
      refine take_ (i := 8) (N := some 105) (v := ?_) (a' := ?_) #[true, true, true, true, true, true, true, true, true, false, false] rfl rfl (take_ofW HT_.out HW_.out (by kernel_rfl)) (fun _ _ _ h => keep_defer rfl (by decide) h) (Or.inl ⟨by rfl, ?_⟩) hHeld ?_ ?_
      rotate_left
      · intro w' s0
        obtain ⟨s0, s1, s2⟩ := s0
        go_simp
        with_reducible rfl
      rotate_left
      · simp only [Act.put, List.setIfInBounds_toArray, List.set_cons_zero, List.set_cons_succ, i64_w, i32_w]
        rfl
      refine pure_ (i := 9) (N := some 106) (v := ?_) (a' := ?_) #[true, true, true, true, true, true, true, true, true, true, false] rfl rfl (any_of HT_.out (by kernel_rfl)) (fun _ _ _ h => keep_defer rfl (by decide) h) (Or.inl ⟨by rfl, ?_⟩) ?_ ?_
      rotate_left
      · intro w'
        go_simp
        with_reducible rfl
      rotate_left
      · simp only [Act.put, List.setIfInBounds_toArray, List.set_cons_zero, List.set_cons_succ, i64_w, i32_w]
        rfl
      refine last_ (i := 10) (N := none) #[true, true, true, true, true, true, true, true, true, true, true] rfl rfl (one_of HT_.out (by kernel_rfl)) (by decide) (fun K hK => ?_)
      refine S_put_step (base := w0.heap.size) (g := gs) (n := safe.length) (cap := c0) (by rfl) rfl 22 (.tmp 106) (.tmp 105) rfl (rd_T185 ps x).f0 (syncL safe (ps.take x.toNat)) (rd_T185 ps x).f1 (.slice Ae (rd_T185 ps x).f1.length ce) _ (fun q => some q = (.slice Ae (rd_T185 ps x).f1.length ce : Value).ownBlock) (by first | rfl | simp [Act.eval, Addr.add, *]) rfl rfl (by kernel_rfl) rfl HS.out HR0.out (by have := HR1.out; omega) HE.out (fun q hq h => by have h2 := HEO.out q hq; rcases h with h | h; exact HDJ.out q h h2.1.1; have := h.2.1; omega) ?_
      intro w7 hs hgrw
      obtain ⟨cells, hcs⟩ := Kd.S_typed HS.out gs rfl
      have HT := Aside0.mk (R_off HT.out hcs (show ∀ q, q ∈ [185, 5] → q ≠ 22 by decide) hgrw)
      have BG := Aside0.mk (blk_off BG.out hcs (by decide) hgrw)
      have HL := Aside0.mk (LMap_step HL.out (hgrw.block b (LMap_lt HL.out) (fun e => LMap_ne HL.out hcs (Option.some.inj e).symm)))
      have HB := Aside0.mk (HB.out.grown hgrw HB.out.size (by intro q hq; cases hq; exact Kd.S_base HS.out gs rfl))
      have HS := Aside0.mk (Kd.S_mono hs (ok' := fun q => P q ∨ (Q q ∧ f q < (x + 1).toNat ∧ some q ≠ (.slice (some ad) ps.length c1 : Value).ownBlock)) (fun q hq => by
        have := HP0.out
        rcases hq with (hq | hq) | hq
        · exact .inl hq
        · exact .inr ⟨hq.1, by have := hq.2.1; omega, hq.2.2⟩
        · have h2 := HEO.out q hq
          exact .inr ⟨h2.1.1, by omega, h2.1.2⟩))
      clear hs hgrw hcs hHeld HE
      refine hK.out _ _ ?_
      clear hK K
      refine done_ (done_of HT_.out (by kernel_rfl)) ?_
      try clear hHeld
      go_wp2_with fail
      go_roundg gk
      case measure => omega
      case rel =>
        have hw1 : wrap64 (x + 1) = x + 1 := by have := HP0.out; have := HQ0.out; have := HPS.out; unfold wrap64; omega
        exact ⟨x + 1, by first | rfl | (rw [hw1]), ⟨by have := HXK.out; omega⟩, ⟨by rw [take_snoc (z := z185) HP0.out HQ0.out, syncL_snoc]; exact HS.out⟩, HT, BG, HL, HB⟩
end Go.Proofs.Ytlopmffdebhpfaa.G
