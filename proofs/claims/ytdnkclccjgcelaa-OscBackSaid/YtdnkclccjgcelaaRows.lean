/-
  No cell of these rows narrows 'for every input' (looked for: loops, veiled, ifaces, maps, wideKeys, modest, calm, conditions, laid).
  DERIVED. THE GIVEN ROWS OF THIS SEAT. 8 by the template 'for every input the law returns true; each argument reads behind the call as it read before'; 0 by the template 'total and deterministic' (their statements: YtdnkclccjgcelaaTotals.lean).
  GIVEN WITH THE SEED: the statements are not yours to turn. If you find one false, say at which input.
  Laid BY PROGRAM, IN A SANDBOX (cutbox-rows.mjs): the forced cells as the released guide's own fill.sh prints them over the translation 6b9af8f30545f01f… (all of the seat's roots in one cut). By AI agents, Wed Nov 11 2026. No macro, syntax, notation, axiom, sorry.
-/
import Derived.Test.YtdnkclccjgcelaaChecked
import GoSem.Claim
import GoSem.ClaimJoined
import GoSem.ClaimMapViews
import Derived.JoinedTies
import Derived.KernelRfl
namespace Go.Proofs.Ytdnkclccjgcelaa
/- THE CELL 'sum', in the pinned program and in every row, IS THE sha256 OF THE DUMP (.gsa) THAT YtdnkclccjgcelaaProg.lean LOADS. Nothing in Lean hashes anything: it is a label: what it is worth is what the hold of that sum in a sandbox is worth. -/
noncomputable def Try.pinned : Pinned := { name := "ytdnkclccjgcelaa", sum := "6b9af8f30545f01f5e89f10b6633d4c12243fee08ec94ba734106351f849c29d", checked := Try.checked }
namespace Rows
def none {H : Type} : Left H := { results := [], args := [] }

/-- 'longlinelaw14.BaseWrites': WHATEVER THE INPUT: true; the input reads as it did. -/
def baseWritesSpec : ChangeSpec := { name := "baseWrites", fn := fun _ => fun
  | [d1, d2] => { results := [.lit (.bool true)], args := [d1, d2] }
  | _ => none }
def baseWritesRow : OpenClaim := { program := "ytdnkclccjgcelaa", sum := "6b9af8f30545f01f5e89f10b6633d4c12243fee08ec94ba734106351f849c29d", func := "longline/longlinelaw14.BaseWrites", spec := "baseWrites", inPlace := ["internal/bytealg.IndexByteString", "internal/abi.NoEscape"], apart := false }
def BaseWritesSaid : Prop := baseWritesRow.holds Try.pinned (OpenSpec.ofChange baseWritesSpec)

/-- ITS FALSE NEIGHBOUR: 'it returns false'. Refute it at one input. -/
def baseWritesWrong : ChangeSpec := { name := "baseWrites", fn := fun _ => fun
  | [d1, d2] => { results := [.lit (.bool false)], args := [d1, d2] }
  | _ => none }
def BaseWritesWrongFalsely : Prop := baseWritesRow.holds Try.pinned (OpenSpec.ofChange baseWritesWrong)

/-- 'longlinelaw14.BaseReads': WHATEVER THE INPUT: true; the input reads as it did. -/
def baseReadsSpec : ChangeSpec := { name := "baseReads", fn := fun _ => fun
  | [d] => { results := [.lit (.bool true)], args := [d] }
  | _ => none }
def baseReadsRow : OpenClaim := { program := "ytdnkclccjgcelaa", sum := "6b9af8f30545f01f5e89f10b6633d4c12243fee08ec94ba734106351f849c29d", func := "longline/longlinelaw14.BaseReads", spec := "baseReads", inPlace := ["internal/bytealg.IndexByteString", "internal/abi.NoEscape"], apart := false }
def BaseReadsSaid : Prop := baseReadsRow.holds Try.pinned (OpenSpec.ofChange baseReadsSpec)

/-- ITS FALSE NEIGHBOUR: 'it returns false'. Refute it at one input. -/
def baseReadsWrong : ChangeSpec := { name := "baseReads", fn := fun _ => fun
  | [d] => { results := [.lit (.bool false)], args := [d] }
  | _ => none }
def BaseReadsWrongFalsely : Prop := baseReadsRow.holds Try.pinned (OpenSpec.ofChange baseReadsWrong)

/-- 'longlinelaw14.BaseBack': WHATEVER THE INPUT: true; the input reads as it did. -/
def baseBackSpec : ChangeSpec := { name := "baseBack", fn := fun _ => fun
  | [d1, d2, d3] => { results := [.lit (.bool true)], args := [d1, d2, d3] }
  | _ => none }
def baseBackRow : OpenClaim := { program := "ytdnkclccjgcelaa", sum := "6b9af8f30545f01f5e89f10b6633d4c12243fee08ec94ba734106351f849c29d", func := "longline/longlinelaw14.BaseBack", spec := "baseBack", inPlace := ["internal/bytealg.IndexByteString", "internal/abi.NoEscape"], apart := false }
def BaseBackSaid : Prop := baseBackRow.holds Try.pinned (OpenSpec.ofChange baseBackSpec)

/-- ITS FALSE NEIGHBOUR: 'it returns false'. Refute it at one input. -/
def baseBackWrong : ChangeSpec := { name := "baseBack", fn := fun _ => fun
  | [d1, d2, d3] => { results := [.lit (.bool false)], args := [d1, d2, d3] }
  | _ => none }
def BaseBackWrongFalsely : Prop := baseBackRow.holds Try.pinned (OpenSpec.ofChange baseBackWrong)

/-- 'longlinelaw14.BaseCuts': WHATEVER THE INPUT: true; the input reads as it did. -/
def baseCutsSpec : ChangeSpec := { name := "baseCuts", fn := fun _ => fun
  | [d1, d2] => { results := [.lit (.bool true)], args := [d1, d2] }
  | _ => none }
def baseCutsRow : OpenClaim := { program := "ytdnkclccjgcelaa", sum := "6b9af8f30545f01f5e89f10b6633d4c12243fee08ec94ba734106351f849c29d", func := "longline/longlinelaw14.BaseCuts", spec := "baseCuts", inPlace := ["internal/abi.NoEscape", "internal/bytealg.IndexByteString"], apart := false }
def BaseCutsSaid : Prop := baseCutsRow.holds Try.pinned (OpenSpec.ofChange baseCutsSpec)

/-- ITS FALSE NEIGHBOUR: 'it returns false'. Refute it at one input. -/
def baseCutsWrong : ChangeSpec := { name := "baseCuts", fn := fun _ => fun
  | [d1, d2] => { results := [.lit (.bool false)], args := [d1, d2] }
  | _ => none }
def BaseCutsWrongFalsely : Prop := baseCutsRow.holds Try.pinned (OpenSpec.ofChange baseCutsWrong)

/-- 'longlinelaw18.OscReads': WHATEVER THE INPUT: true; the input reads as it did. -/
def oscReadsSpec : ChangeSpec := { name := "oscReads", fn := fun _ => fun
  | [d1, d2] => { results := [.lit (.bool true)], args := [d1, d2] }
  | _ => none }
def oscReadsRow : OpenClaim := { program := "ytdnkclccjgcelaa", sum := "6b9af8f30545f01f5e89f10b6633d4c12243fee08ec94ba734106351f849c29d", func := "longline/longlinelaw18.OscReads", spec := "oscReads", inPlace := ["internal/bytealg.IndexByteString"], apart := false }
def OscReadsSaid : Prop := oscReadsRow.holds Try.pinned (OpenSpec.ofChange oscReadsSpec)

/-- ITS FALSE NEIGHBOUR: 'it returns false'. Refute it at one input. -/
def oscReadsWrong : ChangeSpec := { name := "oscReads", fn := fun _ => fun
  | [d1, d2] => { results := [.lit (.bool false)], args := [d1, d2] }
  | _ => none }
def OscReadsWrongFalsely : Prop := oscReadsRow.holds Try.pinned (OpenSpec.ofChange oscReadsWrong)

/-- 'longlinelaw18.OscTitles': WHATEVER THE INPUT: true; the input reads as it did. -/
def oscTitlesSpec : ChangeSpec := { name := "oscTitles", fn := fun _ => fun
  | [d1, d2] => { results := [.lit (.bool true)], args := [d1, d2] }
  | _ => none }
def oscTitlesRow : OpenClaim := { program := "ytdnkclccjgcelaa", sum := "6b9af8f30545f01f5e89f10b6633d4c12243fee08ec94ba734106351f849c29d", func := "longline/longlinelaw18.OscTitles", spec := "oscTitles", inPlace := ["internal/bytealg.IndexByteString"], apart := false }
def OscTitlesSaid : Prop := oscTitlesRow.holds Try.pinned (OpenSpec.ofChange oscTitlesSpec)

/-- ITS FALSE NEIGHBOUR: 'it returns false'. Refute it at one input. -/
def oscTitlesWrong : ChangeSpec := { name := "oscTitles", fn := fun _ => fun
  | [d1, d2] => { results := [.lit (.bool false)], args := [d1, d2] }
  | _ => none }
def OscTitlesWrongFalsely : Prop := oscTitlesRow.holds Try.pinned (OpenSpec.ofChange oscTitlesWrong)

/-- 'longlinelaw18.OscWrites': WHATEVER THE INPUT: true; the input reads as it did. -/
def oscWritesSpec : ChangeSpec := { name := "oscWrites", fn := fun _ => fun
  | [d] => { results := [.lit (.bool true)], args := [d] }
  | _ => none }
def oscWritesRow : OpenClaim := { program := "ytdnkclccjgcelaa", sum := "6b9af8f30545f01f5e89f10b6633d4c12243fee08ec94ba734106351f849c29d", func := "longline/longlinelaw18.OscWrites", spec := "oscWrites", inPlace := ["internal/bytealg.IndexByteString", "internal/abi.NoEscape"], apart := false }
def OscWritesSaid : Prop := oscWritesRow.holds Try.pinned (OpenSpec.ofChange oscWritesSpec)

/-- ITS FALSE NEIGHBOUR: 'it returns false'. Refute it at one input. -/
def oscWritesWrong : ChangeSpec := { name := "oscWrites", fn := fun _ => fun
  | [d] => { results := [.lit (.bool false)], args := [d] }
  | _ => none }
def OscWritesWrongFalsely : Prop := oscWritesRow.holds Try.pinned (OpenSpec.ofChange oscWritesWrong)

/-- 'longlinelaw18.OscBack': WHATEVER THE INPUT: true; the input reads as it did. -/
def oscBackSpec : ChangeSpec := { name := "oscBack", fn := fun _ => fun
  | [d1, d2, d3] => { results := [.lit (.bool true)], args := [d1, d2, d3] }
  | _ => none }
def oscBackRow : OpenClaim := { program := "ytdnkclccjgcelaa", sum := "6b9af8f30545f01f5e89f10b6633d4c12243fee08ec94ba734106351f849c29d", func := "longline/longlinelaw18.OscBack", spec := "oscBack", inPlace := ["internal/bytealg.IndexByteString", "internal/abi.NoEscape"], apart := false }
def OscBackSaid : Prop := oscBackRow.holds Try.pinned (OpenSpec.ofChange oscBackSpec)

/-- ITS FALSE NEIGHBOUR: 'it returns false'. Refute it at one input. -/
def oscBackWrong : ChangeSpec := { name := "oscBack", fn := fun _ => fun
  | [d1, d2, d3] => { results := [.lit (.bool false)], args := [d1, d2, d3] }
  | _ => none }
def OscBackWrongFalsely : Prop := oscBackRow.holds Try.pinned (OpenSpec.ofChange oscBackWrong)

/- THE SECOND FORM. 'bulk': how many values and letters a reading holds, each counted each time it is reached (what is shared counts as often as it is met; a slice's spare places count too). A statement '..UptoSaid' is the law's where the arguments, and the package variables that the reading takes, are together of bulk at most 1048576: NARROWER than '..Said'. Prove '..Said' where nothing that the law and all that it calls make is longer than what came in: it says more and counts as full. Else prove '..UptoSaid'. A law counts once. -/
mutual
def uptoBulk {H : Type} : DataW H → Nat
  | .lit (.string bytes) => bytes.length + 1
  | .lit _ => 1
  | .nil => 1
  | .ptr d => uptoBulk d + 1
  | .slice elems spare => uptoBulkAll elems + uptoBulkAll spare + 1
  | .agg parts => uptoBulkAll parts + 1
  | .iface _ d => uptoBulk d + 1
  | .map entries => uptoBulkEntries entries + 1
  | .held _ => 1
def uptoBulkAll {H : Type} : List (DataW H) → Nat
  | [] => 0
  | d :: r => uptoBulk d + uptoBulkAll r
def uptoBulkEntries {H : Type} : List (Lit × DataW H) → Nat
  | [] => 0
  | x :: r => uptoBulkEntry x + uptoBulkEntries r
def uptoBulkEntry {H : Type} : Lit × DataW H → Nat
  | (.string bytes, d) => bytes.length + uptoBulk d + 1
  | (_, d) => uptoBulk d + 1
 end
def uptoSmall : (H : Type) → List (DataW H) → Bool := fun _ ds => decide (uptoBulkAll ds ≤ 1048576)
def OpenSpec.upto (s : _root_.Go.ChangeSpec) : _root_.Go.OpenSpec := { _root_.Go.OpenSpec.ofChange s with cond := some uptoSmall }

/-- 'longlinelaw14.BaseWrites', WHERE WHAT IT READS IS OF BULK AT MOST 1048576: true; the input reads as it did. -/
def baseWritesUptoRow : OpenClaim := { program := "ytdnkclccjgcelaa", sum := "6b9af8f30545f01f5e89f10b6633d4c12243fee08ec94ba734106351f849c29d", func := "longline/longlinelaw14.BaseWrites", spec := "baseWrites", inPlace := ["internal/bytealg.IndexByteString", "internal/abi.NoEscape"], apart := false, narrowed := true }
def BaseWritesUptoSaid : Prop := baseWritesUptoRow.holds Try.pinned (OpenSpec.upto baseWritesSpec)

/-- 'longlinelaw14.BaseReads', WHERE WHAT IT READS IS OF BULK AT MOST 1048576: true; the input reads as it did. -/
def baseReadsUptoRow : OpenClaim := { program := "ytdnkclccjgcelaa", sum := "6b9af8f30545f01f5e89f10b6633d4c12243fee08ec94ba734106351f849c29d", func := "longline/longlinelaw14.BaseReads", spec := "baseReads", inPlace := ["internal/bytealg.IndexByteString", "internal/abi.NoEscape"], apart := false, narrowed := true }
def BaseReadsUptoSaid : Prop := baseReadsUptoRow.holds Try.pinned (OpenSpec.upto baseReadsSpec)

/-- 'longlinelaw14.BaseBack', WHERE WHAT IT READS IS OF BULK AT MOST 1048576: true; the input reads as it did. -/
def baseBackUptoRow : OpenClaim := { program := "ytdnkclccjgcelaa", sum := "6b9af8f30545f01f5e89f10b6633d4c12243fee08ec94ba734106351f849c29d", func := "longline/longlinelaw14.BaseBack", spec := "baseBack", inPlace := ["internal/bytealg.IndexByteString", "internal/abi.NoEscape"], apart := false, narrowed := true }
def BaseBackUptoSaid : Prop := baseBackUptoRow.holds Try.pinned (OpenSpec.upto baseBackSpec)

/-- 'longlinelaw14.BaseCuts', WHERE WHAT IT READS IS OF BULK AT MOST 1048576: true; the input reads as it did. -/
def baseCutsUptoRow : OpenClaim := { program := "ytdnkclccjgcelaa", sum := "6b9af8f30545f01f5e89f10b6633d4c12243fee08ec94ba734106351f849c29d", func := "longline/longlinelaw14.BaseCuts", spec := "baseCuts", inPlace := ["internal/abi.NoEscape", "internal/bytealg.IndexByteString"], apart := false, narrowed := true }
def BaseCutsUptoSaid : Prop := baseCutsUptoRow.holds Try.pinned (OpenSpec.upto baseCutsSpec)

/-- 'longlinelaw18.OscReads', WHERE WHAT IT READS IS OF BULK AT MOST 1048576: true; the input reads as it did. -/
def oscReadsUptoRow : OpenClaim := { program := "ytdnkclccjgcelaa", sum := "6b9af8f30545f01f5e89f10b6633d4c12243fee08ec94ba734106351f849c29d", func := "longline/longlinelaw18.OscReads", spec := "oscReads", inPlace := ["internal/bytealg.IndexByteString"], apart := false, narrowed := true }
def OscReadsUptoSaid : Prop := oscReadsUptoRow.holds Try.pinned (OpenSpec.upto oscReadsSpec)

/-- 'longlinelaw18.OscTitles', WHERE WHAT IT READS IS OF BULK AT MOST 1048576: true; the input reads as it did. -/
def oscTitlesUptoRow : OpenClaim := { program := "ytdnkclccjgcelaa", sum := "6b9af8f30545f01f5e89f10b6633d4c12243fee08ec94ba734106351f849c29d", func := "longline/longlinelaw18.OscTitles", spec := "oscTitles", inPlace := ["internal/bytealg.IndexByteString"], apart := false, narrowed := true }
def OscTitlesUptoSaid : Prop := oscTitlesUptoRow.holds Try.pinned (OpenSpec.upto oscTitlesSpec)

/-- 'longlinelaw18.OscWrites', WHERE WHAT IT READS IS OF BULK AT MOST 1048576: true; the input reads as it did. -/
def oscWritesUptoRow : OpenClaim := { program := "ytdnkclccjgcelaa", sum := "6b9af8f30545f01f5e89f10b6633d4c12243fee08ec94ba734106351f849c29d", func := "longline/longlinelaw18.OscWrites", spec := "oscWrites", inPlace := ["internal/bytealg.IndexByteString", "internal/abi.NoEscape"], apart := false, narrowed := true }
def OscWritesUptoSaid : Prop := oscWritesUptoRow.holds Try.pinned (OpenSpec.upto oscWritesSpec)

/-- 'longlinelaw18.OscBack', WHERE WHAT IT READS IS OF BULK AT MOST 1048576: true; the input reads as it did. -/
def oscBackUptoRow : OpenClaim := { program := "ytdnkclccjgcelaa", sum := "6b9af8f30545f01f5e89f10b6633d4c12243fee08ec94ba734106351f849c29d", func := "longline/longlinelaw18.OscBack", spec := "oscBack", inPlace := ["internal/bytealg.IndexByteString", "internal/abi.NoEscape"], apart := false, narrowed := true }
def OscBackUptoSaid : Prop := oscBackUptoRow.holds Try.pinned (OpenSpec.upto oscBackSpec)

end Rows
end Go.Proofs.Ytdnkclccjgcelaa
