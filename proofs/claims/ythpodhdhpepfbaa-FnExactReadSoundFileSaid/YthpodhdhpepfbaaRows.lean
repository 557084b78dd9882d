/-
  No cell of these rows narrows 'for every input' (looked for: loops, veiled, ifaces, maps, wideKeys, modest, calm, conditions, laid).
  DERIVED. THE GIVEN ROWS OF THIS SEAT. 6 by the template 'for every input the law returns true; each argument reads behind the call as it read before'; 0 by the template 'total and deterministic' (their statements: YthpodhdhpepfbaaTotals.lean).
  GIVEN WITH THE SEED: the statements are not yours to turn. If you find one false, say at which input.
  Laid BY PROGRAM, IN A SANDBOX (cutbox-rows.mjs): the forced cells as the released guide's own fill.sh prints them over the translation e3655a1590e3cda8… (all of the seat's roots in one cut). By AI agents, Wed Nov 11 2026. No macro, syntax, notation, axiom, sorry.
-/
import Derived.Test.YthpodhdhpepfbaaChecked
import GoSem.Claim
import GoSem.ClaimJoined
import GoSem.ClaimMapViews
import Derived.JoinedTies
import Derived.KernelRfl
namespace Go.Proofs.Ythpodhdhpepfbaa
/- THE CELL 'sum', in the pinned program and in every row, IS THE sha256 OF THE DUMP (.gsa) THAT YthpodhdhpepfbaaProg.lean LOADS. Nothing in Lean hashes anything: it is a label: what it is worth is what the hold of that sum in a sandbox is worth. -/
noncomputable def Try.pinned : Pinned := { name := "ythpodhdhpepfbaa", sum := "e3655a1590e3cda8fe815b39ecb21eec9cbf9515f5999b720a71ff88b041c3b3", checked := Try.checked }
namespace Rows
def none {H : Type} : Left H := { results := [], args := [] }

/-- 'laws.FnExactCheckOf': WHATEVER THE INPUT: true; the input reads as it did. -/
def fnExactCheckOfSpec : ChangeSpec := { name := "fnExactCheckOf", fn := fun _ => fun
  | [d1, d2, d3] => { results := [.lit (.bool true)], args := [d1, d2, d3] }
  | _ => none }
def fnExactCheckOfRow : OpenClaim := { program := "ythpodhdhpepfbaa", sum := "e3655a1590e3cda8fe815b39ecb21eec9cbf9515f5999b720a71ff88b041c3b3", func := "loop.example/g01173/laws.FnExactCheckOf", spec := "fnExactCheckOf", inPlace := ["math.Float32bits"], apart := false }
def FnExactCheckOfSaid : Prop := fnExactCheckOfRow.holds Try.pinned (OpenSpec.ofChange fnExactCheckOfSpec)

/-- ITS FALSE NEIGHBOUR: 'it returns false'. Refute it at one input. -/
def fnExactCheckOfWrong : ChangeSpec := { name := "fnExactCheckOf", fn := fun _ => fun
  | [d1, d2, d3] => { results := [.lit (.bool false)], args := [d1, d2, d3] }
  | _ => none }
def FnExactCheckOfWrongFalsely : Prop := fnExactCheckOfRow.holds Try.pinned (OpenSpec.ofChange fnExactCheckOfWrong)

/-- 'laws.FnExactValidDeed': WHATEVER THE INPUT: true; the input reads as it did. -/
def fnExactValidDeedSpec : ChangeSpec := { name := "fnExactValidDeed", fn := fun _ => fun
  | [d] => { results := [.lit (.bool true)], args := [d] }
  | _ => none }
def fnExactValidDeedRow : OpenClaim := { program := "ythpodhdhpepfbaa", sum := "e3655a1590e3cda8fe815b39ecb21eec9cbf9515f5999b720a71ff88b041c3b3", func := "loop.example/g01173/laws.FnExactValidDeed", spec := "fnExactValidDeed", apart := false }
def FnExactValidDeedSaid : Prop := fnExactValidDeedRow.holds Try.pinned (OpenSpec.ofChange fnExactValidDeedSpec)

/-- ITS FALSE NEIGHBOUR: 'it returns false'. Refute it at one input. -/
def fnExactValidDeedWrong : ChangeSpec := { name := "fnExactValidDeed", fn := fun _ => fun
  | [d] => { results := [.lit (.bool false)], args := [d] }
  | _ => none }
def FnExactValidDeedWrongFalsely : Prop := fnExactValidDeedRow.holds Try.pinned (OpenSpec.ofChange fnExactValidDeedWrong)

/-- 'laws.FnExactTornSamples': WHATEVER THE INPUT: true; the input reads as it did. -/
def fnExactTornSamplesSpec : ChangeSpec := { name := "fnExactTornSamples", fn := fun _ => fun
  | [d] => { results := [.lit (.bool true)], args := [d] }
  | _ => none }
def fnExactTornSamplesRow : OpenClaim := { program := "ythpodhdhpepfbaa", sum := "e3655a1590e3cda8fe815b39ecb21eec9cbf9515f5999b720a71ff88b041c3b3", func := "loop.example/g01173/laws.FnExactTornSamples", spec := "fnExactTornSamples", inPlace := ["math.Float32frombits"], apart := false }
def FnExactTornSamplesSaid : Prop := fnExactTornSamplesRow.holds Try.pinned (OpenSpec.ofChange fnExactTornSamplesSpec)

/-- ITS FALSE NEIGHBOUR: 'it returns false'. Refute it at one input. -/
def fnExactTornSamplesWrong : ChangeSpec := { name := "fnExactTornSamples", fn := fun _ => fun
  | [d] => { results := [.lit (.bool false)], args := [d] }
  | _ => none }
def FnExactTornSamplesWrongFalsely : Prop := fnExactTornSamplesRow.holds Try.pinned (OpenSpec.ofChange fnExactTornSamplesWrong)

/-- 'laws.FnExactMakeSoundFile': WHATEVER THE INPUT: true; the input reads as it did. -/
def fnExactMakeSoundFileSpec : ChangeSpec := { name := "fnExactMakeSoundFile", fn := fun _ => fun
  | [d1, d2, d3] => { results := [.lit (.bool true)], args := [d1, d2, d3] }
  | _ => none }
def fnExactMakeSoundFileRow : OpenClaim := { program := "ythpodhdhpepfbaa", sum := "e3655a1590e3cda8fe815b39ecb21eec9cbf9515f5999b720a71ff88b041c3b3", func := "loop.example/g01173/laws.FnExactMakeSoundFile", spec := "fnExactMakeSoundFile", inPlace := ["math.RoundToEven", "math.Float32bits"], apart := false }
def FnExactMakeSoundFileSaid : Prop := fnExactMakeSoundFileRow.holds Try.pinned (OpenSpec.ofChange fnExactMakeSoundFileSpec)

/-- ITS FALSE NEIGHBOUR: 'it returns false'. Refute it at one input. -/
def fnExactMakeSoundFileWrong : ChangeSpec := { name := "fnExactMakeSoundFile", fn := fun _ => fun
  | [d1, d2, d3] => { results := [.lit (.bool false)], args := [d1, d2, d3] }
  | _ => none }
def FnExactMakeSoundFileWrongFalsely : Prop := fnExactMakeSoundFileRow.holds Try.pinned (OpenSpec.ofChange fnExactMakeSoundFileWrong)

/-- 'laws.FnExactReadSoundFile': WHATEVER THE INPUT: true; the input reads as it did. -/
def fnExactReadSoundFileSpec : ChangeSpec := { name := "fnExactReadSoundFile", fn := fun _ => fun
  | [d] => { results := [.lit (.bool true)], args := [d] }
  | _ => none }
def fnExactReadSoundFileRow : OpenClaim := { program := "ythpodhdhpepfbaa", sum := "e3655a1590e3cda8fe815b39ecb21eec9cbf9515f5999b720a71ff88b041c3b3", func := "loop.example/g01173/laws.FnExactReadSoundFile", spec := "fnExactReadSoundFile", inPlace := ["math.Float32frombits", "math.RoundToEven", "math.Float32bits"], apart := false }
def FnExactReadSoundFileSaid : Prop := fnExactReadSoundFileRow.holds Try.pinned (OpenSpec.ofChange fnExactReadSoundFileSpec)

/-- ITS FALSE NEIGHBOUR: 'it returns false'. Refute it at one input. -/
def fnExactReadSoundFileWrong : ChangeSpec := { name := "fnExactReadSoundFile", fn := fun _ => fun
  | [d] => { results := [.lit (.bool false)], args := [d] }
  | _ => none }
def FnExactReadSoundFileWrongFalsely : Prop := fnExactReadSoundFileRow.holds Try.pinned (OpenSpec.ofChange fnExactReadSoundFileWrong)

/-- 'laws.FnSoundFiles': WHATEVER THE INPUT: true; the input reads as it did. -/
def fnSoundFilesSpec : ChangeSpec := { name := "fnSoundFiles", fn := fun _ => fun
  | [d1, d2] => { results := [.lit (.bool true)], args := [d1, d2] }
  | _ => none }
def fnSoundFilesRow : OpenClaim := { program := "ythpodhdhpepfbaa", sum := "e3655a1590e3cda8fe815b39ecb21eec9cbf9515f5999b720a71ff88b041c3b3", func := "loop.example/g01173/laws.FnSoundFiles", spec := "fnSoundFiles", inPlace := ["math.Float64frombits", "math.Float32frombits", "math.RoundToEven", "math.Float32bits"], apart := false }
def FnSoundFilesSaid : Prop := fnSoundFilesRow.holds Try.pinned (OpenSpec.ofChange fnSoundFilesSpec)

/-- ITS FALSE NEIGHBOUR: 'it returns false'. Refute it at one input. -/
def fnSoundFilesWrong : ChangeSpec := { name := "fnSoundFiles", fn := fun _ => fun
  | [d1, d2] => { results := [.lit (.bool false)], args := [d1, d2] }
  | _ => none }
def FnSoundFilesWrongFalsely : Prop := fnSoundFilesRow.holds Try.pinned (OpenSpec.ofChange fnSoundFilesWrong)

/- THE SECOND FORM. 'bulk': how many values and letters a reading holds, each counted each time it is reached (what is shared counts as often as it is met; a slice's spare places count too). A statement '..UptoSaid' is the law's where the arguments, and the package variables that the reading takes, are together of bulk at most 1048576: NARROWER than '..Said'. Prove '..Said' where nothing that the law and all that it calls make is longer than what came in: it says more and counts as full. Else prove '..UptoSaid'. A law counts once. -/
mutual
def uptoBulk {H : Type} : DataW H → Nat
  | .lit (.string bytes) => bytes.length + 1
  | .lit _ => 1
  | .nil => 1
  | .ptr d => uptoBulk d + 1
  | .slice elems spare => uptoBulkAll elems + uptoBulkAll spare + 1
  | .agg parts => uptoBulkAll parts + 1
  | .iface _ d => uptoBulk d + 1
  | .map entries => uptoBulkEntries entries + 1
  | .held _ => 1
def uptoBulkAll {H : Type} : List (DataW H) → Nat
  | [] => 0
  | d :: r => uptoBulk d + uptoBulkAll r
def uptoBulkEntries {H : Type} : List (Lit × DataW H) → Nat
  | [] => 0
  | x :: r => uptoBulkEntry x + uptoBulkEntries r
def uptoBulkEntry {H : Type} : Lit × DataW H → Nat
  | (.string bytes, d) => bytes.length + uptoBulk d + 1
  | (_, d) => uptoBulk d + 1
 end
def uptoSmall : (H : Type) → List (DataW H) → Bool := fun _ ds => decide (uptoBulkAll ds ≤ 1048576)
def OpenSpec.upto (s : _root_.Go.ChangeSpec) : _root_.Go.OpenSpec := { _root_.Go.OpenSpec.ofChange s with cond := some uptoSmall }

/-- 'laws.FnExactCheckOf', WHERE WHAT IT READS IS OF BULK AT MOST 1048576: true; the input reads as it did. -/
def fnExactCheckOfUptoRow : OpenClaim := { program := "ythpodhdhpepfbaa", sum := "e3655a1590e3cda8fe815b39ecb21eec9cbf9515f5999b720a71ff88b041c3b3", func := "loop.example/g01173/laws.FnExactCheckOf", spec := "fnExactCheckOf", inPlace := ["math.Float32bits"], apart := false, narrowed := true }
def FnExactCheckOfUptoSaid : Prop := fnExactCheckOfUptoRow.holds Try.pinned (OpenSpec.upto fnExactCheckOfSpec)

/-- 'laws.FnExactValidDeed', WHERE WHAT IT READS IS OF BULK AT MOST 1048576: true; the input reads as it did. -/
def fnExactValidDeedUptoRow : OpenClaim := { program := "ythpodhdhpepfbaa", sum := "e3655a1590e3cda8fe815b39ecb21eec9cbf9515f5999b720a71ff88b041c3b3", func := "loop.example/g01173/laws.FnExactValidDeed", spec := "fnExactValidDeed", apart := false, narrowed := true }
def FnExactValidDeedUptoSaid : Prop := fnExactValidDeedUptoRow.holds Try.pinned (OpenSpec.upto fnExactValidDeedSpec)

/-- 'laws.FnExactTornSamples', WHERE WHAT IT READS IS OF BULK AT MOST 1048576: true; the input reads as it did. -/
def fnExactTornSamplesUptoRow : OpenClaim := { program := "ythpodhdhpepfbaa", sum := "e3655a1590e3cda8fe815b39ecb21eec9cbf9515f5999b720a71ff88b041c3b3", func := "loop.example/g01173/laws.FnExactTornSamples", spec := "fnExactTornSamples", inPlace := ["math.Float32frombits"], apart := false, narrowed := true }
def FnExactTornSamplesUptoSaid : Prop := fnExactTornSamplesUptoRow.holds Try.pinned (OpenSpec.upto fnExactTornSamplesSpec)

/-- 'laws.FnExactMakeSoundFile', WHERE WHAT IT READS IS OF BULK AT MOST 1048576: true; the input reads as it did. -/
def fnExactMakeSoundFileUptoRow : OpenClaim := { program := "ythpodhdhpepfbaa", sum := "e3655a1590e3cda8fe815b39ecb21eec9cbf9515f5999b720a71ff88b041c3b3", func := "loop.example/g01173/laws.FnExactMakeSoundFile", spec := "fnExactMakeSoundFile", inPlace := ["math.RoundToEven", "math.Float32bits"], apart := false, narrowed := true }
def FnExactMakeSoundFileUptoSaid : Prop := fnExactMakeSoundFileUptoRow.holds Try.pinned (OpenSpec.upto fnExactMakeSoundFileSpec)

/-- 'laws.FnExactReadSoundFile', WHERE WHAT IT READS IS OF BULK AT MOST 1048576: true; the input reads as it did. -/
def fnExactReadSoundFileUptoRow : OpenClaim := { program := "ythpodhdhpepfbaa", sum := "e3655a1590e3cda8fe815b39ecb21eec9cbf9515f5999b720a71ff88b041c3b3", func := "loop.example/g01173/laws.FnExactReadSoundFile", spec := "fnExactReadSoundFile", inPlace := ["math.Float32frombits", "math.RoundToEven", "math.Float32bits"], apart := false, narrowed := true }
def FnExactReadSoundFileUptoSaid : Prop := fnExactReadSoundFileUptoRow.holds Try.pinned (OpenSpec.upto fnExactReadSoundFileSpec)

/-- 'laws.FnSoundFiles', WHERE WHAT IT READS IS OF BULK AT MOST 1048576: true; the input reads as it did. -/
def fnSoundFilesUptoRow : OpenClaim := { program := "ythpodhdhpepfbaa", sum := "e3655a1590e3cda8fe815b39ecb21eec9cbf9515f5999b720a71ff88b041c3b3", func := "loop.example/g01173/laws.FnSoundFiles", spec := "fnSoundFiles", inPlace := ["math.Float64frombits", "math.Float32frombits", "math.RoundToEven", "math.Float32bits"], apart := false, narrowed := true }
def FnSoundFilesUptoSaid : Prop := fnSoundFilesUptoRow.holds Try.pinned (OpenSpec.upto fnSoundFilesSpec)

end Rows
end Go.Proofs.Ythpodhdhpepfbaa
