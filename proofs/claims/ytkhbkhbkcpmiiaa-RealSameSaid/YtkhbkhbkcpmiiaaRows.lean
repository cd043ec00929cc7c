/-
  No cell of these rows narrows 'for every input' (looked for: loops, veiled, ifaces, maps, wideKeys, modest, calm, conditions, laid).
  DERIVED. THE GIVEN ROWS OF THIS SEAT. 6 by the template 'for every input the law returns true; each argument reads behind the call as it read before'; 0 by the template 'total and deterministic' (their statements: YtkhbkhbkcpmiiaaTotals.lean).
  GIVEN WITH THE SEED: the statements are not yours to turn. If you find one false, say at which input.
  Laid BY PROGRAM, IN A SANDBOX (cutbox-rows.mjs): the forced cells as the released guide's own fill.sh prints them over the translation 0e8e6cd32f2b3680… (all of the seat's roots in one cut). By AI agents, Wed Nov 11 2026. No macro, syntax, notation, axiom, sorry.
-/
import Derived.Test.YtkhbkhbkcpmiiaaChecked
import GoSem.Claim
import GoSem.ClaimJoined
import GoSem.ClaimMapViews
import Derived.JoinedTies
import Derived.KernelRfl
namespace Go.Proofs.Ytkhbkhbkcpmiiaa
/- THE CELL 'sum', in the pinned program and in every row, IS THE sha256 OF THE DUMP (.gsa) THAT YtkhbkhbkcpmiiaaProg.lean LOADS. Nothing in Lean hashes anything: it is a label: what it is worth is what the hold of that sum in a sandbox is worth. -/
noncomputable def Try.pinned : Pinned := { name := "ytkhbkhbkcpmiiaa", sum := "0e8e6cd32f2b3680ff3bf56dff18cd940a5a766b0130985a544c3ca282f46750", checked := Try.checked }
namespace Rows
def none {H : Type} : Left H := { results := [], args := [] }

/-- 'cadastrelaw02.RealFrom': WHATEVER THE INPUT: true; the input reads as it did. -/
def realFromSpec : ChangeSpec := { name := "realFrom", fn := fun _ => fun
  | [d] => { results := [.lit (.bool true)], args := [d] }
  | _ => none }
def realFromRow : OpenClaim := { program := "ytkhbkhbkcpmiiaa", sum := "0e8e6cd32f2b3680ff3bf56dff18cd940a5a766b0130985a544c3ca282f46750", func := "cadastre/cadastrelaw02.RealFrom", spec := "realFrom", inPlace := ["math.Float64frombits", "math.sqrt"], apart := false }
def RealFromSaid : Prop := realFromRow.holds Try.pinned (OpenSpec.ofChange realFromSpec)

/-- ITS FALSE NEIGHBOUR: 'it returns false'. Refute it at one input. -/
def realFromWrong : ChangeSpec := { name := "realFrom", fn := fun _ => fun
  | [d] => { results := [.lit (.bool false)], args := [d] }
  | _ => none }
def RealFromWrongFalsely : Prop := realFromRow.holds Try.pinned (OpenSpec.ofChange realFromWrong)

/-- 'cadastrelaw02.RealRoots': WHATEVER THE INPUT: true; the input reads as it did. -/
def realRootsSpec : ChangeSpec := { name := "realRoots", fn := fun _ => fun
  | [d] => { results := [.lit (.bool true)], args := [d] }
  | _ => none }
def realRootsRow : OpenClaim := { program := "ytkhbkhbkcpmiiaa", sum := "0e8e6cd32f2b3680ff3bf56dff18cd940a5a766b0130985a544c3ca282f46750", func := "cadastre/cadastrelaw02.RealRoots", spec := "realRoots", inPlace := ["math.sqrt", "math.Float64frombits"], apart := false }
def RealRootsSaid : Prop := realRootsRow.holds Try.pinned (OpenSpec.ofChange realRootsSpec)

/-- ITS FALSE NEIGHBOUR: 'it returns false'. Refute it at one input. -/
def realRootsWrong : ChangeSpec := { name := "realRoots", fn := fun _ => fun
  | [d] => { results := [.lit (.bool false)], args := [d] }
  | _ => none }
def RealRootsWrongFalsely : Prop := realRootsRow.holds Try.pinned (OpenSpec.ofChange realRootsWrong)

/-- 'cadastrelaw02.RealMeans': WHATEVER THE INPUT: true; the input reads as it did. -/
def realMeansSpec : ChangeSpec := { name := "realMeans", fn := fun _ => fun
  | [d] => { results := [.lit (.bool true)], args := [d] }
  | _ => none }
def realMeansRow : OpenClaim := { program := "ytkhbkhbkcpmiiaa", sum := "0e8e6cd32f2b3680ff3bf56dff18cd940a5a766b0130985a544c3ca282f46750", func := "cadastre/cadastrelaw02.RealMeans", spec := "realMeans", inPlace := ["math.Float64frombits", "math.Float64bits", "math.sqrt"], apart := false }
def RealMeansSaid : Prop := realMeansRow.holds Try.pinned (OpenSpec.ofChange realMeansSpec)

/-- ITS FALSE NEIGHBOUR: 'it returns false'. Refute it at one input. -/
def realMeansWrong : ChangeSpec := { name := "realMeans", fn := fun _ => fun
  | [d] => { results := [.lit (.bool false)], args := [d] }
  | _ => none }
def RealMeansWrongFalsely : Prop := realMeansRow.holds Try.pinned (OpenSpec.ofChange realMeansWrong)

/-- 'cadastrelaw02.RealSame': WHATEVER THE INPUT: true; the input reads as it did. -/
def realSameSpec : ChangeSpec := { name := "realSame", fn := fun _ => fun
  | [d1, d2] => { results := [.lit (.bool true)], args := [d1, d2] }
  | _ => none }
def realSameRow : OpenClaim := { program := "ytkhbkhbkcpmiiaa", sum := "0e8e6cd32f2b3680ff3bf56dff18cd940a5a766b0130985a544c3ca282f46750", func := "cadastre/cadastrelaw02.RealSame", spec := "realSame", inPlace := ["math.Float64frombits", "math.Float64bits", "math.sqrt"], apart := false }
def RealSameSaid : Prop := realSameRow.holds Try.pinned (OpenSpec.ofChange realSameSpec)

/-- ITS FALSE NEIGHBOUR: 'it returns false'. Refute it at one input. -/
def realSameWrong : ChangeSpec := { name := "realSame", fn := fun _ => fun
  | [d1, d2] => { results := [.lit (.bool false)], args := [d1, d2] }
  | _ => none }
def RealSameWrongFalsely : Prop := realSameRow.holds Try.pinned (OpenSpec.ofChange realSameWrong)

/-- 'cadastrelaw02.RealTo': WHATEVER THE INPUT: true; the input reads as it did. -/
def realToSpec : ChangeSpec := { name := "realTo", fn := fun _ => fun
  | [d] => { results := [.lit (.bool true)], args := [d] }
  | _ => none }
def realToRow : OpenClaim := { program := "ytkhbkhbkcpmiiaa", sum := "0e8e6cd32f2b3680ff3bf56dff18cd940a5a766b0130985a544c3ca282f46750", func := "cadastre/cadastrelaw02.RealTo", spec := "realTo", inPlace := ["math.Float64bits", "math.Float64frombits", "math.sqrt"], named := ["math/bits.divideError", "math/bits.overflowError"], apart := false }
def RealToSaid : Prop := realToRow.holds Try.pinned (OpenSpec.ofChange realToSpec)

/-- ITS FALSE NEIGHBOUR: 'it returns false'. Refute it at one input. -/
def realToWrong : ChangeSpec := { name := "realTo", fn := fun _ => fun
  | [d] => { results := [.lit (.bool false)], args := [d] }
  | _ => none }
def RealToWrongFalsely : Prop := realToRow.holds Try.pinned (OpenSpec.ofChange realToWrong)

/-- 'cadastrelaw02.RealRises': WHATEVER THE INPUT: true; the input reads as it did. -/
def realRisesSpec : ChangeSpec := { name := "realRises", fn := fun _ => fun
  | [d1, d2, d3] => { results := [.lit (.bool true)], args := [d1, d2, d3] }
  | _ => none }
def realRisesRow : OpenClaim := { program := "ytkhbkhbkcpmiiaa", sum := "0e8e6cd32f2b3680ff3bf56dff18cd940a5a766b0130985a544c3ca282f46750", func := "cadastre/cadastrelaw02.RealRises", spec := "realRises", inPlace := ["math.Float64frombits", "math.Float64bits", "math.sqrt"], named := ["math/bits.divideError", "math/bits.overflowError"], apart := false }
def RealRisesSaid : Prop := realRisesRow.holds Try.pinned (OpenSpec.ofChange realRisesSpec)

/-- ITS FALSE NEIGHBOUR: 'it returns false'. Refute it at one input. -/
def realRisesWrong : ChangeSpec := { name := "realRises", fn := fun _ => fun
  | [d1, d2, d3] => { results := [.lit (.bool false)], args := [d1, d2, d3] }
  | _ => none }
def RealRisesWrongFalsely : Prop := realRisesRow.holds Try.pinned (OpenSpec.ofChange realRisesWrong)

/- THE SECOND FORM. 'bulk': how many values and letters a reading holds, each counted each time it is reached (what is shared counts as often as it is met; a slice's spare places count too). A statement '..UptoSaid' is the law's where the arguments, and the package variables that the reading takes, are together of bulk at most 1048576: NARROWER than '..Said'. Prove '..Said' where nothing that the law and all that it calls make is longer than what came in: it says more and counts as full. Else prove '..UptoSaid'. A law counts once. -/
mutual
def uptoBulk {H : Type} : DataW H → Nat
  | .lit (.string bytes) => bytes.length + 1
  | .lit _ => 1
  | .nil => 1
  | .ptr d => uptoBulk d + 1
  | .slice elems spare => uptoBulkAll elems + uptoBulkAll spare + 1
  | .agg parts => uptoBulkAll parts + 1
  | .iface _ d => uptoBulk d + 1
  | .map entries => uptoBulkEntries entries + 1
  | .held _ => 1
def uptoBulkAll {H : Type} : List (DataW H) → Nat
  | [] => 0
  | d :: r => uptoBulk d + uptoBulkAll r
def uptoBulkEntries {H : Type} : List (Lit × DataW H) → Nat
  | [] => 0
  | x :: r => uptoBulkEntry x + uptoBulkEntries r
def uptoBulkEntry {H : Type} : Lit × DataW H → Nat
  | (.string bytes, d) => bytes.length + uptoBulk d + 1
  | (_, d) => uptoBulk d + 1
 end
def uptoSmall : (H : Type) → List (DataW H) → Bool := fun _ ds => decide (uptoBulkAll ds ≤ 1048576)
def OpenSpec.upto (s : _root_.Go.ChangeSpec) : _root_.Go.OpenSpec := { _root_.Go.OpenSpec.ofChange s with cond := some uptoSmall }

/-- 'cadastrelaw02.RealFrom', WHERE WHAT IT READS IS OF BULK AT MOST 1048576: true; the input reads as it did. -/
def realFromUptoRow : OpenClaim := { program := "ytkhbkhbkcpmiiaa", sum := "0e8e6cd32f2b3680ff3bf56dff18cd940a5a766b0130985a544c3ca282f46750", func := "cadastre/cadastrelaw02.RealFrom", spec := "realFrom", inPlace := ["math.Float64frombits", "math.sqrt"], apart := false, narrowed := true }
def RealFromUptoSaid : Prop := realFromUptoRow.holds Try.pinned (OpenSpec.upto realFromSpec)

/-- 'cadastrelaw02.RealRoots', WHERE WHAT IT READS IS OF BULK AT MOST 1048576: true; the input reads as it did. -/
def realRootsUptoRow : OpenClaim := { program := "ytkhbkhbkcpmiiaa", sum := "0e8e6cd32f2b3680ff3bf56dff18cd940a5a766b0130985a544c3ca282f46750", func := "cadastre/cadastrelaw02.RealRoots", spec := "realRoots", inPlace := ["math.sqrt", "math.Float64frombits"], apart := false, narrowed := true }
def RealRootsUptoSaid : Prop := realRootsUptoRow.holds Try.pinned (OpenSpec.upto realRootsSpec)

/-- 'cadastrelaw02.RealMeans', WHERE WHAT IT READS IS OF BULK AT MOST 1048576: true; the input reads as it did. -/
def realMeansUptoRow : OpenClaim := { program := "ytkhbkhbkcpmiiaa", sum := "0e8e6cd32f2b3680ff3bf56dff18cd940a5a766b0130985a544c3ca282f46750", func := "cadastre/cadastrelaw02.RealMeans", spec := "realMeans", inPlace := ["math.Float64frombits", "math.Float64bits", "math.sqrt"], apart := false, narrowed := true }
def RealMeansUptoSaid : Prop := realMeansUptoRow.holds Try.pinned (OpenSpec.upto realMeansSpec)

/-- 'cadastrelaw02.RealSame', WHERE WHAT IT READS IS OF BULK AT MOST 1048576: true; the input reads as it did. -/
def realSameUptoRow : OpenClaim := { program := "ytkhbkhbkcpmiiaa", sum := "0e8e6cd32f2b3680ff3bf56dff18cd940a5a766b0130985a544c3ca282f46750", func := "cadastre/cadastrelaw02.RealSame", spec := "realSame", inPlace := ["math.Float64frombits", "math.Float64bits", "math.sqrt"], apart := false, narrowed := true }
def RealSameUptoSaid : Prop := realSameUptoRow.holds Try.pinned (OpenSpec.upto realSameSpec)

/-- 'cadastrelaw02.RealTo', WHERE WHAT IT READS IS OF BULK AT MOST 1048576: true; the input reads as it did. -/
def realToUptoRow : OpenClaim := { program := "ytkhbkhbkcpmiiaa", sum := "0e8e6cd32f2b3680ff3bf56dff18cd940a5a766b0130985a544c3ca282f46750", func := "cadastre/cadastrelaw02.RealTo", spec := "realTo", inPlace := ["math.Float64bits", "math.Float64frombits", "math.sqrt"], named := ["math/bits.divideError", "math/bits.overflowError"], apart := false, narrowed := true }
def RealToUptoSaid : Prop := realToUptoRow.holds Try.pinned (OpenSpec.upto realToSpec)

/-- 'cadastrelaw02.RealRises', WHERE WHAT IT READS IS OF BULK AT MOST 1048576: true; the input reads as it did. -/
def realRisesUptoRow : OpenClaim := { program := "ytkhbkhbkcpmiiaa", sum := "0e8e6cd32f2b3680ff3bf56dff18cd940a5a766b0130985a544c3ca282f46750", func := "cadastre/cadastrelaw02.RealRises", spec := "realRises", inPlace := ["math.Float64frombits", "math.Float64bits", "math.sqrt"], named := ["math/bits.divideError", "math/bits.overflowError"], apart := false, narrowed := true }
def RealRisesUptoSaid : Prop := realRisesUptoRow.holds Try.pinned (OpenSpec.upto realRisesSpec)

end Rows
end Go.Proofs.Ytkhbkhbkcpmiiaa
