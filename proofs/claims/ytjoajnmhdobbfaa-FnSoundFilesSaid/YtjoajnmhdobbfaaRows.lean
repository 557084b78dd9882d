/-
  No cell of these rows narrows 'for every input' (looked for: loops, veiled, ifaces, maps, wideKeys, modest, calm, conditions, laid).
  DERIVED. THE GIVEN ROWS OF THIS SEAT. 3 by the template 'for every input the law returns true; each argument reads behind the call as it read before'; 0 by the template 'total and deterministic' (their statements: YtjoajnmhdobbfaaTotals.lean).
  GIVEN WITH THE SEED: the statements are not yours to turn. If you find one false, say at which input.
  Laid BY PROGRAM, IN A SANDBOX (cutbox-rows.mjs): the forced cells as the released guide's own fill.sh prints them over the translation 20f461bc37aba593… (all of the seat's roots in one cut). By AI agents, Wed Nov 11 2026. No macro, syntax, notation, axiom, sorry.
-/
import Derived.Test.YtjoajnmhdobbfaaChecked
import GoSem.Claim
import GoSem.ClaimJoined
import GoSem.ClaimMapViews
import Derived.JoinedTies
import Derived.KernelRfl
namespace Go.Proofs.Ytjoajnmhdobbfaa
/- THE CELL 'sum', in the pinned program and in every row, IS THE sha256 OF THE DUMP (.gsa) THAT YtjoajnmhdobbfaaProg.lean LOADS. Nothing in Lean hashes anything: it is a label: what it is worth is what the hold of that sum in a sandbox is worth. -/
noncomputable def Try.pinned : Pinned := { name := "ytjoajnmhdobbfaa", sum := "20f461bc37aba593f0769974c0f4d3d44aed87f60b8b34dfef6106eec1650a90", checked := Try.checked }
namespace Rows
def none {H : Type} : Left H := { results := [], args := [] }

/-- 'laws.FnSoundFiles': WHATEVER THE INPUT: true; the input reads as it did. -/
def fnSoundFilesSpec : ChangeSpec := { name := "fnSoundFiles", fn := fun _ => fun
  | [d1, d2] => { results := [.lit (.bool true)], args := [d1, d2] }
  | _ => none }
def fnSoundFilesRow : OpenClaim := { program := "ytjoajnmhdobbfaa", sum := "20f461bc37aba593f0769974c0f4d3d44aed87f60b8b34dfef6106eec1650a90", func := "loop.example/g01173/laws.FnSoundFiles", spec := "fnSoundFiles", inPlace := ["math.Float64frombits", "math.Float32frombits", "math.RoundToEven", "math.Float32bits"], apart := false }
def FnSoundFilesSaid : Prop := fnSoundFilesRow.holds Try.pinned (OpenSpec.ofChange fnSoundFilesSpec)

/-- ITS FALSE NEIGHBOUR: 'it returns false'. Refute it at one input. -/
def fnSoundFilesWrong : ChangeSpec := { name := "fnSoundFiles", fn := fun _ => fun
  | [d1, d2] => { results := [.lit (.bool false)], args := [d1, d2] }
  | _ => none }
def FnSoundFilesWrongFalsely : Prop := fnSoundFilesRow.holds Try.pinned (OpenSpec.ofChange fnSoundFilesWrong)

/-- 'laws.FnExactBlockOfPipe': WHATEVER THE INPUT: true; the input reads as it did. -/
def fnExactBlockOfPipeSpec : ChangeSpec := { name := "fnExactBlockOfPipe", fn := fun _ => fun
  | [d1, d2] => { results := [.lit (.bool true)], args := [d1, d2] }
  | _ => none }
def fnExactBlockOfPipeRow : OpenClaim := { program := "ytjoajnmhdobbfaa", sum := "20f461bc37aba593f0769974c0f4d3d44aed87f60b8b34dfef6106eec1650a90", func := "loop.example/g01173/laws.FnExactBlockOfPipe", spec := "fnExactBlockOfPipe", inPlace := ["math.Float32bits", "math.Float32frombits", "math.Float64bits", "math.Float64frombits"], unfollowed := true, recurses := true, apart := false }
def FnExactBlockOfPipeSaid : Prop := fnExactBlockOfPipeRow.holds Try.pinned (OpenSpec.ofChange fnExactBlockOfPipeSpec)

/-- ITS FALSE NEIGHBOUR: 'it returns false'. Refute it at one input. -/
def fnExactBlockOfPipeWrong : ChangeSpec := { name := "fnExactBlockOfPipe", fn := fun _ => fun
  | [d1, d2] => { results := [.lit (.bool false)], args := [d1, d2] }
  | _ => none }
def FnExactBlockOfPipeWrongFalsely : Prop := fnExactBlockOfPipeRow.holds Try.pinned (OpenSpec.ofChange fnExactBlockOfPipeWrong)

/-- 'laws.FnExactSamePlayer': WHATEVER THE INPUT: true; the input reads as it did. -/
def fnExactSamePlayerSpec : ChangeSpec := { name := "fnExactSamePlayer", fn := fun _ => fun
  | [d1, d2] => { results := [.lit (.bool true)], args := [d1, d2] }
  | _ => none }
def fnExactSamePlayerRow : OpenClaim := { program := "ytjoajnmhdobbfaa", sum := "20f461bc37aba593f0769974c0f4d3d44aed87f60b8b34dfef6106eec1650a90", func := "loop.example/g01173/laws.FnExactSamePlayer", spec := "fnExactSamePlayer", inPlace := ["math.Float32bits"], unfollowed := true, recurses := true, apart := false }
def FnExactSamePlayerSaid : Prop := fnExactSamePlayerRow.holds Try.pinned (OpenSpec.ofChange fnExactSamePlayerSpec)

/-- ITS FALSE NEIGHBOUR: 'it returns false'. Refute it at one input. -/
def fnExactSamePlayerWrong : ChangeSpec := { name := "fnExactSamePlayer", fn := fun _ => fun
  | [d1, d2] => { results := [.lit (.bool false)], args := [d1, d2] }
  | _ => none }
def FnExactSamePlayerWrongFalsely : Prop := fnExactSamePlayerRow.holds Try.pinned (OpenSpec.ofChange fnExactSamePlayerWrong)

/- THE SECOND FORM. 'bulk': how many values and letters a reading holds, each counted each time it is reached (what is shared counts as often as it is met; a slice's spare places count too). A statement '..UptoSaid' is the law's where the arguments, and the package variables that the reading takes, are together of bulk at most 1048576: NARROWER than '..Said'. Prove '..Said' where nothing that the law and all that it calls make is longer than what came in: it says more and counts as full. Else prove '..UptoSaid'. A law counts once. -/
mutual
def uptoBulk {H : Type} : DataW H → Nat
  | .lit (.string bytes) => bytes.length + 1
  | .lit _ => 1
  | .nil => 1
  | .ptr d => uptoBulk d + 1
  | .slice elems spare => uptoBulkAll elems + uptoBulkAll spare + 1
  | .agg parts => uptoBulkAll parts + 1
  | .iface _ d => uptoBulk d + 1
  | .map entries => uptoBulkEntries entries + 1
  | .held _ => 1
def uptoBulkAll {H : Type} : List (DataW H) → Nat
  | [] => 0
  | d :: r => uptoBulk d + uptoBulkAll r
def uptoBulkEntries {H : Type} : List (Lit × DataW H) → Nat
  | [] => 0
  | x :: r => uptoBulkEntry x + uptoBulkEntries r
def uptoBulkEntry {H : Type} : Lit × DataW H → Nat
  | (.string bytes, d) => bytes.length + uptoBulk d + 1
  | (_, d) => uptoBulk d + 1
 end
def uptoSmall : (H : Type) → List (DataW H) → Bool := fun _ ds => decide (uptoBulkAll ds ≤ 1048576)
def OpenSpec.upto (s : _root_.Go.ChangeSpec) : _root_.Go.OpenSpec := { _root_.Go.OpenSpec.ofChange s with cond := some uptoSmall }

/-- 'laws.FnSoundFiles', WHERE WHAT IT READS IS OF BULK AT MOST 1048576: true; the input reads as it did. -/
def fnSoundFilesUptoRow : OpenClaim := { program := "ytjoajnmhdobbfaa", sum := "20f461bc37aba593f0769974c0f4d3d44aed87f60b8b34dfef6106eec1650a90", func := "loop.example/g01173/laws.FnSoundFiles", spec := "fnSoundFiles", inPlace := ["math.Float64frombits", "math.Float32frombits", "math.RoundToEven", "math.Float32bits"], apart := false, narrowed := true }
def FnSoundFilesUptoSaid : Prop := fnSoundFilesUptoRow.holds Try.pinned (OpenSpec.upto fnSoundFilesSpec)

/-- 'laws.FnExactBlockOfPipe', WHERE WHAT IT READS IS OF BULK AT MOST 1048576: true; the input reads as it did. -/
def fnExactBlockOfPipeUptoRow : OpenClaim := { program := "ytjoajnmhdobbfaa", sum := "20f461bc37aba593f0769974c0f4d3d44aed87f60b8b34dfef6106eec1650a90", func := "loop.example/g01173/laws.FnExactBlockOfPipe", spec := "fnExactBlockOfPipe", inPlace := ["math.Float32bits", "math.Float32frombits", "math.Float64bits", "math.Float64frombits"], unfollowed := true, recurses := true, apart := false, narrowed := true }
def FnExactBlockOfPipeUptoSaid : Prop := fnExactBlockOfPipeUptoRow.holds Try.pinned (OpenSpec.upto fnExactBlockOfPipeSpec)

/-- 'laws.FnExactSamePlayer', WHERE WHAT IT READS IS OF BULK AT MOST 1048576: true; the input reads as it did. -/
def fnExactSamePlayerUptoRow : OpenClaim := { program := "ytjoajnmhdobbfaa", sum := "20f461bc37aba593f0769974c0f4d3d44aed87f60b8b34dfef6106eec1650a90", func := "loop.example/g01173/laws.FnExactSamePlayer", spec := "fnExactSamePlayer", inPlace := ["math.Float32bits"], unfollowed := true, recurses := true, apart := false, narrowed := true }
def FnExactSamePlayerUptoSaid : Prop := fnExactSamePlayerUptoRow.holds Try.pinned (OpenSpec.upto fnExactSamePlayerSpec)

end Rows
end Go.Proofs.Ytjoajnmhdobbfaa
