/-
  No cell of these rows narrows 'for every input' (looked for: loops, veiled, ifaces, maps, wideKeys, modest, calm, conditions, laid).
  DERIVED. THE GIVEN ROWS OF THIS SEAT. 11 by the template 'for every input the law returns true; each argument reads behind the call as it read before'; 0 by the template 'total and deterministic' (their statements: YtlopmffdebhpfaaTotals.lean).
  GIVEN WITH THE SEED: the statements are not yours to turn. If you find one false, say at which input.
  Laid BY PROGRAM, IN A SANDBOX (cutbox-rows.mjs): the forced cells as the released guide's own fill.sh prints them over the translation e7f635cdeb2996a2… (all of the seat's roots in one cut). By AI agents, Wed Nov 11 2026. No macro, syntax, notation, axiom, sorry.
-/
import Derived.Test.YtlopmffdebhpfaaChecked
import GoSem.Claim
import GoSem.ClaimJoined
import GoSem.ClaimMapViews
import Derived.JoinedTies
import Derived.KernelRfl
namespace Go.Proofs.Ytlopmffdebhpfaa
/- THE CELL 'sum', in the pinned program and in every row, IS THE sha256 OF THE DUMP (.gsa) THAT YtlopmffdebhpfaaProg.lean LOADS. Nothing in Lean hashes anything: it is a label: what it is worth is what the hold of that sum in a sandbox is worth. -/
noncomputable def Try.pinned : Pinned := { name := "ytlopmffdebhpfaa", sum := "e7f635cdeb2996a2312ec09485d4fe2ba533003a729a48502b7d30527df14f94", checked := Try.checked }
namespace Rows
def none {H : Type} : Left H := { results := [], args := [] }

/-- 'laws.FnExactDecodePage': WHATEVER THE INPUT: true; the input reads as it did. -/
def fnExactDecodePageSpec : ChangeSpec := { name := "fnExactDecodePage", fn := fun _ => fun
  | [d1, d2] => { results := [.lit (.bool true)], args := [d1, d2] }
  | _ => none }
def fnExactDecodePageRow : OpenClaim := { program := "ytlopmffdebhpfaa", sum := "e7f635cdeb2996a2312ec09485d4fe2ba533003a729a48502b7d30527df14f94", func := "loop.example/s01906/laws.FnExactDecodePage", spec := "fnExactDecodePage", inPlace := ["internal/bytealg.MakeNoZero", "internal/reflectlite.TypeOf"], unfollowed := true, recurses := true, apart := false }
def FnExactDecodePageSaid : Prop := fnExactDecodePageRow.holds Try.pinned (OpenSpec.ofChange fnExactDecodePageSpec)

/-- ITS FALSE NEIGHBOUR: 'it returns false'. Refute it at one input. -/
def fnExactDecodePageWrong : ChangeSpec := { name := "fnExactDecodePage", fn := fun _ => fun
  | [d1, d2] => { results := [.lit (.bool false)], args := [d1, d2] }
  | _ => none }
def FnExactDecodePageWrongFalsely : Prop := fnExactDecodePageRow.holds Try.pinned (OpenSpec.ofChange fnExactDecodePageWrong)

/-- 'laws.FnPage': WHATEVER THE INPUT: true; the input reads as it did. -/
def fnPageSpec : ChangeSpec := { name := "fnPage", fn := fun _ => fun
  | [d] => { results := [.lit (.bool true)], args := [d] }
  | _ => none }
def fnPageRow : OpenClaim := { program := "ytlopmffdebhpfaa", sum := "e7f635cdeb2996a2312ec09485d4fe2ba533003a729a48502b7d30527df14f94", func := "loop.example/s01906/laws.FnPage", spec := "fnPage", inPlace := ["internal/bytealg.MakeNoZero", "internal/reflectlite.TypeOf"], unfollowed := true, recurses := true, apart := false }
def FnPageSaid : Prop := fnPageRow.holds Try.pinned (OpenSpec.ofChange fnPageSpec)

/-- ITS FALSE NEIGHBOUR: 'it returns false'. Refute it at one input. -/
def fnPageWrong : ChangeSpec := { name := "fnPage", fn := fun _ => fun
  | [d] => { results := [.lit (.bool false)], args := [d] }
  | _ => none }
def FnPageWrongFalsely : Prop := fnPageRow.holds Try.pinned (OpenSpec.ofChange fnPageWrong)

/-- 'laws.FnExactReadSector': WHATEVER THE INPUT: true; the input reads as it did. -/
def fnExactReadSectorSpec : ChangeSpec := { name := "fnExactReadSector", fn := fun _ => fun
  | [d1, d2] => { results := [.lit (.bool true)], args := [d1, d2] }
  | _ => none }
def fnExactReadSectorRow : OpenClaim := { program := "ytlopmffdebhpfaa", sum := "e7f635cdeb2996a2312ec09485d4fe2ba533003a729a48502b7d30527df14f94", func := "loop.example/s01906/laws.FnExactReadSector", spec := "fnExactReadSector", inPlace := ["(*internal/sync.Mutex).Lock", "internal/race.Disable", "sync/atomic.CompareAndSwapInt32", "internal/race.Enable", "internal/race.Acquire", "(*internal/sync.Mutex).lockSlow", "internal/sync.runtime_canSpin", "internal/sync.runtime_doSpin", "internal/sync.throw", "internal/sync.runtime_nanotime", "internal/sync.runtime_SemacquireMutex", "sync/atomic.AddInt32", "(*internal/sync.Mutex).Unlock", "internal/race.ReleaseMerge", "(*internal/sync.Mutex).unlockSlow", "internal/sync.fatal", "internal/sync.runtime_Semrelease"], apart := false }
def FnExactReadSectorSaid : Prop := fnExactReadSectorRow.holds Try.pinned (OpenSpec.ofChange fnExactReadSectorSpec)

/-- ITS FALSE NEIGHBOUR: 'it returns false'. Refute it at one input. -/
def fnExactReadSectorWrong : ChangeSpec := { name := "fnExactReadSector", fn := fun _ => fun
  | [d1, d2] => { results := [.lit (.bool false)], args := [d1, d2] }
  | _ => none }
def FnExactReadSectorWrongFalsely : Prop := fnExactReadSectorRow.holds Try.pinned (OpenSpec.ofChange fnExactReadSectorWrong)

/-- 'laws.FnExactDecodeBlock': WHATEVER THE INPUT: true; the input reads as it did. -/
def fnExactDecodeBlockSpec : ChangeSpec := { name := "fnExactDecodeBlock", fn := fun _ => fun
  | [d] => { results := [.lit (.bool true)], args := [d] }
  | _ => none }
def fnExactDecodeBlockRow : OpenClaim := { program := "ytlopmffdebhpfaa", sum := "e7f635cdeb2996a2312ec09485d4fe2ba533003a729a48502b7d30527df14f94", func := "loop.example/s01906/laws.FnExactDecodeBlock", spec := "fnExactDecodeBlock", unfollowed := true, recurses := true, apart := false }
def FnExactDecodeBlockSaid : Prop := fnExactDecodeBlockRow.holds Try.pinned (OpenSpec.ofChange fnExactDecodeBlockSpec)

/-- ITS FALSE NEIGHBOUR: 'it returns false'. Refute it at one input. -/
def fnExactDecodeBlockWrong : ChangeSpec := { name := "fnExactDecodeBlock", fn := fun _ => fun
  | [d] => { results := [.lit (.bool false)], args := [d] }
  | _ => none }
def FnExactDecodeBlockWrongFalsely : Prop := fnExactDecodeBlockRow.holds Try.pinned (OpenSpec.ofChange fnExactDecodeBlockWrong)

/-- 'laws.FnExactDo': WHATEVER THE INPUT: true; the input reads as it did. -/
def fnExactDoSpec : ChangeSpec := { name := "fnExactDo", fn := fun _ => fun
  | [d1, d2] => { results := [.lit (.bool true)], args := [d1, d2] }
  | _ => none }
def fnExactDoRow : OpenClaim := { program := "ytlopmffdebhpfaa", sum := "e7f635cdeb2996a2312ec09485d4fe2ba533003a729a48502b7d30527df14f94", func := "loop.example/s01906/laws.FnExactDo", spec := "fnExactDo", inPlace := ["(*internal/sync.Mutex).Lock", "internal/race.Disable", "sync/atomic.CompareAndSwapInt32", "internal/race.Enable", "internal/race.Acquire", "(*internal/sync.Mutex).lockSlow", "internal/sync.runtime_canSpin", "internal/sync.runtime_doSpin", "internal/sync.throw", "internal/sync.runtime_nanotime", "internal/sync.runtime_SemacquireMutex", "sync/atomic.AddInt32", "(*internal/sync.Mutex).Unlock", "internal/race.ReleaseMerge", "(*internal/sync.Mutex).unlockSlow", "internal/sync.fatal", "internal/sync.runtime_Semrelease"], apart := false }
def FnExactDoSaid : Prop := fnExactDoRow.holds Try.pinned (OpenSpec.ofChange fnExactDoSpec)

/-- ITS FALSE NEIGHBOUR: 'it returns false'. Refute it at one input. -/
def fnExactDoWrong : ChangeSpec := { name := "fnExactDo", fn := fun _ => fun
  | [d1, d2] => { results := [.lit (.bool false)], args := [d1, d2] }
  | _ => none }
def FnExactDoWrongFalsely : Prop := fnExactDoRow.holds Try.pinned (OpenSpec.ofChange fnExactDoWrong)

/-- 'laws.FnExactPlay': WHATEVER THE INPUT: true; the input reads as it did. -/
def fnExactPlaySpec : ChangeSpec := { name := "fnExactPlay", fn := fun _ => fun
  | [d1, d2, d3] => { results := [.lit (.bool true)], args := [d1, d2, d3] }
  | _ => none }
def fnExactPlayRow : OpenClaim := { program := "ytlopmffdebhpfaa", sum := "e7f635cdeb2996a2312ec09485d4fe2ba533003a729a48502b7d30527df14f94", func := "loop.example/s01906/laws.FnExactPlay", spec := "fnExactPlay", inPlace := ["(*internal/sync.Mutex).Lock", "internal/race.Disable", "sync/atomic.CompareAndSwapInt32", "internal/race.Enable", "internal/race.Acquire", "(*internal/sync.Mutex).lockSlow", "internal/sync.runtime_canSpin", "internal/sync.runtime_doSpin", "internal/sync.throw", "internal/sync.runtime_nanotime", "internal/sync.runtime_SemacquireMutex", "sync/atomic.AddInt32", "(*internal/sync.Mutex).Unlock", "internal/race.ReleaseMerge", "(*internal/sync.Mutex).unlockSlow", "internal/sync.fatal", "internal/sync.runtime_Semrelease"], apart := false }
def FnExactPlaySaid : Prop := fnExactPlayRow.holds Try.pinned (OpenSpec.ofChange fnExactPlaySpec)

/-- ITS FALSE NEIGHBOUR: 'it returns false'. Refute it at one input. -/
def fnExactPlayWrong : ChangeSpec := { name := "fnExactPlay", fn := fun _ => fun
  | [d1, d2, d3] => { results := [.lit (.bool false)], args := [d1, d2, d3] }
  | _ => none }
def FnExactPlayWrongFalsely : Prop := fnExactPlayRow.holds Try.pinned (OpenSpec.ofChange fnExactPlayWrong)

/-- 'laws.FnExactFormat': WHATEVER THE INPUT: true; the input reads as it did. -/
def fnExactFormatSpec : ChangeSpec := { name := "fnExactFormat", fn := fun _ => fun
  | [d] => { results := [.lit (.bool true)], args := [d] }
  | _ => none }
def fnExactFormatRow : OpenClaim := { program := "ytlopmffdebhpfaa", sum := "e7f635cdeb2996a2312ec09485d4fe2ba533003a729a48502b7d30527df14f94", func := "loop.example/s01906/laws.FnExactFormat", spec := "fnExactFormat", inPlace := ["internal/bytealg.MakeNoZero", "(*internal/sync.Mutex).Lock", "internal/race.Disable", "sync/atomic.CompareAndSwapInt32", "internal/race.Enable", "internal/race.Acquire", "(*internal/sync.Mutex).lockSlow", "internal/sync.runtime_canSpin", "internal/sync.runtime_doSpin", "internal/sync.throw", "internal/sync.runtime_nanotime", "internal/sync.runtime_SemacquireMutex", "sync/atomic.AddInt32", "(*internal/sync.Mutex).Unlock", "internal/race.ReleaseMerge", "(*internal/sync.Mutex).unlockSlow", "internal/sync.fatal", "internal/sync.runtime_Semrelease"], unfollowed := true, recurses := true, apart := false }
def FnExactFormatSaid : Prop := fnExactFormatRow.holds Try.pinned (OpenSpec.ofChange fnExactFormatSpec)

/-- ITS FALSE NEIGHBOUR: 'it returns false'. Refute it at one input. -/
def fnExactFormatWrong : ChangeSpec := { name := "fnExactFormat", fn := fun _ => fun
  | [d] => { results := [.lit (.bool false)], args := [d] }
  | _ => none }
def FnExactFormatWrongFalsely : Prop := fnExactFormatRow.holds Try.pinned (OpenSpec.ofChange fnExactFormatWrong)

/-- 'laws.FnExactReadPage': WHATEVER THE INPUT: true; the input reads as it did. -/
def fnExactReadPageSpec : ChangeSpec := { name := "fnExactReadPage", fn := fun _ => fun
  | [d1, d2] => { results := [.lit (.bool true)], args := [d1, d2] }
  | _ => none }
def fnExactReadPageRow : OpenClaim := { program := "ytlopmffdebhpfaa", sum := "e7f635cdeb2996a2312ec09485d4fe2ba533003a729a48502b7d30527df14f94", func := "loop.example/s01906/laws.FnExactReadPage", spec := "fnExactReadPage", inPlace := ["(*internal/sync.Mutex).Lock", "internal/race.Disable", "sync/atomic.CompareAndSwapInt32", "internal/race.Enable", "internal/race.Acquire", "(*internal/sync.Mutex).lockSlow", "internal/sync.runtime_canSpin", "internal/sync.runtime_doSpin", "internal/sync.throw", "internal/sync.runtime_nanotime", "internal/sync.runtime_SemacquireMutex", "sync/atomic.AddInt32", "(*internal/sync.Mutex).Unlock", "internal/race.ReleaseMerge", "(*internal/sync.Mutex).unlockSlow", "internal/sync.fatal", "internal/sync.runtime_Semrelease", "internal/bytealg.MakeNoZero"], apart := false }
def FnExactReadPageSaid : Prop := fnExactReadPageRow.holds Try.pinned (OpenSpec.ofChange fnExactReadPageSpec)

/-- ITS FALSE NEIGHBOUR: 'it returns false'. Refute it at one input. -/
def fnExactReadPageWrong : ChangeSpec := { name := "fnExactReadPage", fn := fun _ => fun
  | [d1, d2] => { results := [.lit (.bool false)], args := [d1, d2] }
  | _ => none }
def FnExactReadPageWrongFalsely : Prop := fnExactReadPageRow.holds Try.pinned (OpenSpec.ofChange fnExactReadPageWrong)

/-- 'laws.FnExactBestSuper': WHATEVER THE INPUT: true; the input reads as it did. -/
def fnExactBestSuperSpec : ChangeSpec := { name := "fnExactBestSuper", fn := fun _ => fun
  | [d] => { results := [.lit (.bool true)], args := [d] }
  | _ => none }
def fnExactBestSuperRow : OpenClaim := { program := "ytlopmffdebhpfaa", sum := "e7f635cdeb2996a2312ec09485d4fe2ba533003a729a48502b7d30527df14f94", func := "loop.example/s01906/laws.FnExactBestSuper", spec := "fnExactBestSuper", inPlace := ["(*internal/sync.Mutex).Lock", "internal/race.Disable", "sync/atomic.CompareAndSwapInt32", "internal/race.Enable", "internal/race.Acquire", "(*internal/sync.Mutex).lockSlow", "internal/sync.runtime_canSpin", "internal/sync.runtime_doSpin", "internal/sync.throw", "internal/sync.runtime_nanotime", "internal/sync.runtime_SemacquireMutex", "sync/atomic.AddInt32", "(*internal/sync.Mutex).Unlock", "internal/race.ReleaseMerge", "(*internal/sync.Mutex).unlockSlow", "internal/sync.fatal", "internal/sync.runtime_Semrelease", "internal/bytealg.MakeNoZero"], unfollowed := true, recurses := true, apart := false }
def FnExactBestSuperSaid : Prop := fnExactBestSuperRow.holds Try.pinned (OpenSpec.ofChange fnExactBestSuperSpec)

/-- ITS FALSE NEIGHBOUR: 'it returns false'. Refute it at one input. -/
def fnExactBestSuperWrong : ChangeSpec := { name := "fnExactBestSuper", fn := fun _ => fun
  | [d] => { results := [.lit (.bool false)], args := [d] }
  | _ => none }
def FnExactBestSuperWrongFalsely : Prop := fnExactBestSuperRow.holds Try.pinned (OpenSpec.ofChange fnExactBestSuperWrong)

/-- 'laws.FnBlock': WHATEVER THE INPUT: true; the input reads as it did. -/
def fnBlockSpec : ChangeSpec := { name := "fnBlock", fn := fun _ => fun
  | [d] => { results := [.lit (.bool true)], args := [d] }
  | _ => none }
def fnBlockRow : OpenClaim := { program := "ytlopmffdebhpfaa", sum := "e7f635cdeb2996a2312ec09485d4fe2ba533003a729a48502b7d30527df14f94", func := "loop.example/s01906/laws.FnBlock", spec := "fnBlock", unfollowed := true, recurses := true, apart := false }
def FnBlockSaid : Prop := fnBlockRow.holds Try.pinned (OpenSpec.ofChange fnBlockSpec)

/-- ITS FALSE NEIGHBOUR: 'it returns false'. Refute it at one input. -/
def fnBlockWrong : ChangeSpec := { name := "fnBlock", fn := fun _ => fun
  | [d] => { results := [.lit (.bool false)], args := [d] }
  | _ => none }
def FnBlockWrongFalsely : Prop := fnBlockRow.holds Try.pinned (OpenSpec.ofChange fnBlockWrong)

/-- 'laws.FnExactFreeList': WHATEVER THE INPUT: true; the input reads as it did. -/
def fnExactFreeListSpec : ChangeSpec := { name := "fnExactFreeList", fn := fun _ => fun
  | [d1, d2] => { results := [.lit (.bool true)], args := [d1, d2] }
  | _ => none }
def fnExactFreeListRow : OpenClaim := { program := "ytlopmffdebhpfaa", sum := "e7f635cdeb2996a2312ec09485d4fe2ba533003a729a48502b7d30527df14f94", func := "loop.example/s01906/laws.FnExactFreeList", spec := "fnExactFreeList", inPlace := ["(*internal/sync.Mutex).Lock", "internal/race.Disable", "sync/atomic.CompareAndSwapInt32", "internal/race.Enable", "internal/race.Acquire", "(*internal/sync.Mutex).lockSlow", "internal/sync.runtime_canSpin", "internal/sync.runtime_doSpin", "internal/sync.throw", "internal/sync.runtime_nanotime", "internal/sync.runtime_SemacquireMutex", "sync/atomic.AddInt32", "(*internal/sync.Mutex).Unlock", "internal/race.ReleaseMerge", "(*internal/sync.Mutex).unlockSlow", "internal/sync.fatal", "internal/sync.runtime_Semrelease", "internal/bytealg.MakeNoZero"], apart := false }
def FnExactFreeListSaid : Prop := fnExactFreeListRow.holds Try.pinned (OpenSpec.ofChange fnExactFreeListSpec)

/-- ITS FALSE NEIGHBOUR: 'it returns false'. Refute it at one input. -/
def fnExactFreeListWrong : ChangeSpec := { name := "fnExactFreeList", fn := fun _ => fun
  | [d1, d2] => { results := [.lit (.bool false)], args := [d1, d2] }
  | _ => none }
def FnExactFreeListWrongFalsely : Prop := fnExactFreeListRow.holds Try.pinned (OpenSpec.ofChange fnExactFreeListWrong)

/- THE SECOND FORM. 'bulk': how many values and letters a reading holds, each counted each time it is reached (what is shared counts as often as it is met; a slice's spare places count too). A statement '..UptoSaid' is the law's where the arguments, and the package variables that the reading takes, are together of bulk at most 1048576: NARROWER than '..Said'. Prove '..Said' where nothing that the law and all that it calls make is longer than what came in: it says more and counts as full. Else prove '..UptoSaid'. A law counts once. -/
mutual
def uptoBulk {H : Type} : DataW H → Nat
  | .lit (.string bytes) => bytes.length + 1
  | .lit _ => 1
  | .nil => 1
  | .ptr d => uptoBulk d + 1
  | .slice elems spare => uptoBulkAll elems + uptoBulkAll spare + 1
  | .agg parts => uptoBulkAll parts + 1
  | .iface _ d => uptoBulk d + 1
  | .map entries => uptoBulkEntries entries + 1
  | .held _ => 1
def uptoBulkAll {H : Type} : List (DataW H) → Nat
  | [] => 0
  | d :: r => uptoBulk d + uptoBulkAll r
def uptoBulkEntries {H : Type} : List (Lit × DataW H) → Nat
  | [] => 0
  | x :: r => uptoBulkEntry x + uptoBulkEntries r
def uptoBulkEntry {H : Type} : Lit × DataW H → Nat
  | (.string bytes, d) => bytes.length + uptoBulk d + 1
  | (_, d) => uptoBulk d + 1
 end
def uptoSmall : (H : Type) → List (DataW H) → Bool := fun _ ds => decide (uptoBulkAll ds ≤ 1048576)
def OpenSpec.upto (s : _root_.Go.ChangeSpec) : _root_.Go.OpenSpec := { _root_.Go.OpenSpec.ofChange s with cond := some uptoSmall }

/-- 'laws.FnExactDecodePage', WHERE WHAT IT READS IS OF BULK AT MOST 1048576: true; the input reads as it did. -/
def fnExactDecodePageUptoRow : OpenClaim := { program := "ytlopmffdebhpfaa", sum := "e7f635cdeb2996a2312ec09485d4fe2ba533003a729a48502b7d30527df14f94", func := "loop.example/s01906/laws.FnExactDecodePage", spec := "fnExactDecodePage", inPlace := ["internal/bytealg.MakeNoZero", "internal/reflectlite.TypeOf"], unfollowed := true, recurses := true, apart := false, narrowed := true }
def FnExactDecodePageUptoSaid : Prop := fnExactDecodePageUptoRow.holds Try.pinned (OpenSpec.upto fnExactDecodePageSpec)

/-- 'laws.FnPage', WHERE WHAT IT READS IS OF BULK AT MOST 1048576: true; the input reads as it did. -/
def fnPageUptoRow : OpenClaim := { program := "ytlopmffdebhpfaa", sum := "e7f635cdeb2996a2312ec09485d4fe2ba533003a729a48502b7d30527df14f94", func := "loop.example/s01906/laws.FnPage", spec := "fnPage", inPlace := ["internal/bytealg.MakeNoZero", "internal/reflectlite.TypeOf"], unfollowed := true, recurses := true, apart := false, narrowed := true }
def FnPageUptoSaid : Prop := fnPageUptoRow.holds Try.pinned (OpenSpec.upto fnPageSpec)

/-- 'laws.FnExactReadSector', WHERE WHAT IT READS IS OF BULK AT MOST 1048576: true; the input reads as it did. -/
def fnExactReadSectorUptoRow : OpenClaim := { program := "ytlopmffdebhpfaa", sum := "e7f635cdeb2996a2312ec09485d4fe2ba533003a729a48502b7d30527df14f94", func := "loop.example/s01906/laws.FnExactReadSector", spec := "fnExactReadSector", inPlace := ["(*internal/sync.Mutex).Lock", "internal/race.Disable", "sync/atomic.CompareAndSwapInt32", "internal/race.Enable", "internal/race.Acquire", "(*internal/sync.Mutex).lockSlow", "internal/sync.runtime_canSpin", "internal/sync.runtime_doSpin", "internal/sync.throw", "internal/sync.runtime_nanotime", "internal/sync.runtime_SemacquireMutex", "sync/atomic.AddInt32", "(*internal/sync.Mutex).Unlock", "internal/race.ReleaseMerge", "(*internal/sync.Mutex).unlockSlow", "internal/sync.fatal", "internal/sync.runtime_Semrelease"], apart := false, narrowed := true }
def FnExactReadSectorUptoSaid : Prop := fnExactReadSectorUptoRow.holds Try.pinned (OpenSpec.upto fnExactReadSectorSpec)

/-- 'laws.FnExactDecodeBlock', WHERE WHAT IT READS IS OF BULK AT MOST 1048576: true; the input reads as it did. -/
def fnExactDecodeBlockUptoRow : OpenClaim := { program := "ytlopmffdebhpfaa", sum := "e7f635cdeb2996a2312ec09485d4fe2ba533003a729a48502b7d30527df14f94", func := "loop.example/s01906/laws.FnExactDecodeBlock", spec := "fnExactDecodeBlock", unfollowed := true, recurses := true, apart := false, narrowed := true }
def FnExactDecodeBlockUptoSaid : Prop := fnExactDecodeBlockUptoRow.holds Try.pinned (OpenSpec.upto fnExactDecodeBlockSpec)

/-- 'laws.FnExactDo', WHERE WHAT IT READS IS OF BULK AT MOST 1048576: true; the input reads as it did. -/
def fnExactDoUptoRow : OpenClaim := { program := "ytlopmffdebhpfaa", sum := "e7f635cdeb2996a2312ec09485d4fe2ba533003a729a48502b7d30527df14f94", func := "loop.example/s01906/laws.FnExactDo", spec := "fnExactDo", inPlace := ["(*internal/sync.Mutex).Lock", "internal/race.Disable", "sync/atomic.CompareAndSwapInt32", "internal/race.Enable", "internal/race.Acquire", "(*internal/sync.Mutex).lockSlow", "internal/sync.runtime_canSpin", "internal/sync.runtime_doSpin", "internal/sync.throw", "internal/sync.runtime_nanotime", "internal/sync.runtime_SemacquireMutex", "sync/atomic.AddInt32", "(*internal/sync.Mutex).Unlock", "internal/race.ReleaseMerge", "(*internal/sync.Mutex).unlockSlow", "internal/sync.fatal", "internal/sync.runtime_Semrelease"], apart := false, narrowed := true }
def FnExactDoUptoSaid : Prop := fnExactDoUptoRow.holds Try.pinned (OpenSpec.upto fnExactDoSpec)

/-- 'laws.FnExactPlay', WHERE WHAT IT READS IS OF BULK AT MOST 1048576: true; the input reads as it did. -/
def fnExactPlayUptoRow : OpenClaim := { program := "ytlopmffdebhpfaa", sum := "e7f635cdeb2996a2312ec09485d4fe2ba533003a729a48502b7d30527df14f94", func := "loop.example/s01906/laws.FnExactPlay", spec := "fnExactPlay", inPlace := ["(*internal/sync.Mutex).Lock", "internal/race.Disable", "sync/atomic.CompareAndSwapInt32", "internal/race.Enable", "internal/race.Acquire", "(*internal/sync.Mutex).lockSlow", "internal/sync.runtime_canSpin", "internal/sync.runtime_doSpin", "internal/sync.throw", "internal/sync.runtime_nanotime", "internal/sync.runtime_SemacquireMutex", "sync/atomic.AddInt32", "(*internal/sync.Mutex).Unlock", "internal/race.ReleaseMerge", "(*internal/sync.Mutex).unlockSlow", "internal/sync.fatal", "internal/sync.runtime_Semrelease"], apart := false, narrowed := true }
def FnExactPlayUptoSaid : Prop := fnExactPlayUptoRow.holds Try.pinned (OpenSpec.upto fnExactPlaySpec)

/-- 'laws.FnExactFormat', WHERE WHAT IT READS IS OF BULK AT MOST 1048576: true; the input reads as it did. -/
def fnExactFormatUptoRow : OpenClaim := { program := "ytlopmffdebhpfaa", sum := "e7f635cdeb2996a2312ec09485d4fe2ba533003a729a48502b7d30527df14f94", func := "loop.example/s01906/laws.FnExactFormat", spec := "fnExactFormat", inPlace := ["internal/bytealg.MakeNoZero", "(*internal/sync.Mutex).Lock", "internal/race.Disable", "sync/atomic.CompareAndSwapInt32", "internal/race.Enable", "internal/race.Acquire", "(*internal/sync.Mutex).lockSlow", "internal/sync.runtime_canSpin", "internal/sync.runtime_doSpin", "internal/sync.throw", "internal/sync.runtime_nanotime", "internal/sync.runtime_SemacquireMutex", "sync/atomic.AddInt32", "(*internal/sync.Mutex).Unlock", "internal/race.ReleaseMerge", "(*internal/sync.Mutex).unlockSlow", "internal/sync.fatal", "internal/sync.runtime_Semrelease"], unfollowed := true, recurses := true, apart := false, narrowed := true }
def FnExactFormatUptoSaid : Prop := fnExactFormatUptoRow.holds Try.pinned (OpenSpec.upto fnExactFormatSpec)

/-- 'laws.FnExactReadPage', WHERE WHAT IT READS IS OF BULK AT MOST 1048576: true; the input reads as it did. -/
def fnExactReadPageUptoRow : OpenClaim := { program := "ytlopmffdebhpfaa", sum := "e7f635cdeb2996a2312ec09485d4fe2ba533003a729a48502b7d30527df14f94", func := "loop.example/s01906/laws.FnExactReadPage", spec := "fnExactReadPage", inPlace := ["(*internal/sync.Mutex).Lock", "internal/race.Disable", "sync/atomic.CompareAndSwapInt32", "internal/race.Enable", "internal/race.Acquire", "(*internal/sync.Mutex).lockSlow", "internal/sync.runtime_canSpin", "internal/sync.runtime_doSpin", "internal/sync.throw", "internal/sync.runtime_nanotime", "internal/sync.runtime_SemacquireMutex", "sync/atomic.AddInt32", "(*internal/sync.Mutex).Unlock", "internal/race.ReleaseMerge", "(*internal/sync.Mutex).unlockSlow", "internal/sync.fatal", "internal/sync.runtime_Semrelease", "internal/bytealg.MakeNoZero"], apart := false, narrowed := true }
def FnExactReadPageUptoSaid : Prop := fnExactReadPageUptoRow.holds Try.pinned (OpenSpec.upto fnExactReadPageSpec)

/-- 'laws.FnExactBestSuper', WHERE WHAT IT READS IS OF BULK AT MOST 1048576: true; the input reads as it did. -/
def fnExactBestSuperUptoRow : OpenClaim := { program := "ytlopmffdebhpfaa", sum := "e7f635cdeb2996a2312ec09485d4fe2ba533003a729a48502b7d30527df14f94", func := "loop.example/s01906/laws.FnExactBestSuper", spec := "fnExactBestSuper", inPlace := ["(*internal/sync.Mutex).Lock", "internal/race.Disable", "sync/atomic.CompareAndSwapInt32", "internal/race.Enable", "internal/race.Acquire", "(*internal/sync.Mutex).lockSlow", "internal/sync.runtime_canSpin", "internal/sync.runtime_doSpin", "internal/sync.throw", "internal/sync.runtime_nanotime", "internal/sync.runtime_SemacquireMutex", "sync/atomic.AddInt32", "(*internal/sync.Mutex).Unlock", "internal/race.ReleaseMerge", "(*internal/sync.Mutex).unlockSlow", "internal/sync.fatal", "internal/sync.runtime_Semrelease", "internal/bytealg.MakeNoZero"], unfollowed := true, recurses := true, apart := false, narrowed := true }
def FnExactBestSuperUptoSaid : Prop := fnExactBestSuperUptoRow.holds Try.pinned (OpenSpec.upto fnExactBestSuperSpec)

/-- 'laws.FnBlock', WHERE WHAT IT READS IS OF BULK AT MOST 1048576: true; the input reads as it did. -/
def fnBlockUptoRow : OpenClaim := { program := "ytlopmffdebhpfaa", sum := "e7f635cdeb2996a2312ec09485d4fe2ba533003a729a48502b7d30527df14f94", func := "loop.example/s01906/laws.FnBlock", spec := "fnBlock", unfollowed := true, recurses := true, apart := false, narrowed := true }
def FnBlockUptoSaid : Prop := fnBlockUptoRow.holds Try.pinned (OpenSpec.upto fnBlockSpec)

/-- 'laws.FnExactFreeList', WHERE WHAT IT READS IS OF BULK AT MOST 1048576: true; the input reads as it did. -/
def fnExactFreeListUptoRow : OpenClaim := { program := "ytlopmffdebhpfaa", sum := "e7f635cdeb2996a2312ec09485d4fe2ba533003a729a48502b7d30527df14f94", func := "loop.example/s01906/laws.FnExactFreeList", spec := "fnExactFreeList", inPlace := ["(*internal/sync.Mutex).Lock", "internal/race.Disable", "sync/atomic.CompareAndSwapInt32", "internal/race.Enable", "internal/race.Acquire", "(*internal/sync.Mutex).lockSlow", "internal/sync.runtime_canSpin", "internal/sync.runtime_doSpin", "internal/sync.throw", "internal/sync.runtime_nanotime", "internal/sync.runtime_SemacquireMutex", "sync/atomic.AddInt32", "(*internal/sync.Mutex).Unlock", "internal/race.ReleaseMerge", "(*internal/sync.Mutex).unlockSlow", "internal/sync.fatal", "internal/sync.runtime_Semrelease", "internal/bytealg.MakeNoZero"], apart := false, narrowed := true }
def FnExactFreeListUptoSaid : Prop := fnExactFreeListUptoRow.holds Try.pinned (OpenSpec.upto fnExactFreeListSpec)

end Rows
end Go.Proofs.Ytlopmffdebhpfaa
