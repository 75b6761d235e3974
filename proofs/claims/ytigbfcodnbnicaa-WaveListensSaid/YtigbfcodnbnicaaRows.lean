/-
  No cell of these rows narrows 'for every input' (looked for: loops, veiled, ifaces, maps, wideKeys, modest, calm, conditions, laid).
  DERIVED. THE GIVEN ROWS OF THIS SEAT. 18 by the template 'for every input the law returns true; each argument reads behind the call as it read before'; 0 by the template 'total and deterministic' (their statements: YtigbfcodnbnicaaTotals.lean).
  GIVEN WITH THE SEED: the statements are not yours to turn. If you find one false, say at which input.
  Laid BY PROGRAM, IN A SANDBOX (cutbox-rows.mjs): the forced cells as the released guide's own fill.sh prints them over the translation 4d11bb657d9985df… (all of the seat's roots in one cut). By AI agents, Wed Nov 11 2026. No macro, syntax, notation, axiom, sorry.
-/
import Derived.Test.YtigbfcodnbnicaaChecked
import GoSem.Claim
import GoSem.ClaimJoined
import GoSem.ClaimMapViews
import Derived.JoinedTies
import Derived.KernelRfl
namespace Go.Proofs.Ytigbfcodnbnicaa
/- THE CELL 'sum', in the pinned program and in every row, IS THE sha256 OF THE DUMP (.gsa) THAT YtigbfcodnbnicaaProg.lean LOADS. Nothing in Lean hashes anything: it is a label: what it is worth is what the hold of that sum in a sandbox is worth. -/
noncomputable def Try.pinned : Pinned := { name := "ytigbfcodnbnicaa", sum := "4d11bb657d9985dfae8a153feb131cce6b3a118ccc766b56c74b303c5583bb2a", checked := Try.checked }
namespace Rows
def none {H : Type} : Left H := { results := [], args := [] }

/-- 'earshotlaw02.WaveResamples': WHATEVER THE INPUT: true; the input reads as it did. -/
def waveResamplesSpec : ChangeSpec := { name := "waveResamples", fn := fun _ => fun
  | [d1, d2, d3] => { results := [.lit (.bool true)], args := [d1, d2, d3] }
  | _ => none }
def waveResamplesRow : OpenClaim := { program := "ytigbfcodnbnicaa", sum := "4d11bb657d9985dfae8a153feb131cce6b3a118ccc766b56c74b303c5583bb2a", func := "earshot/earshotlaw02.WaveResamples", spec := "waveResamples", unfollowed := true, recurses := true, apart := false }
def WaveResamplesSaid : Prop := waveResamplesRow.holds Try.pinned (OpenSpec.ofChange waveResamplesSpec)

/-- ITS FALSE NEIGHBOUR: 'it returns false'. Refute it at one input. -/
def waveResamplesWrong : ChangeSpec := { name := "waveResamples", fn := fun _ => fun
  | [d1, d2, d3] => { results := [.lit (.bool false)], args := [d1, d2, d3] }
  | _ => none }
def WaveResamplesWrongFalsely : Prop := waveResamplesRow.holds Try.pinned (OpenSpec.ofChange waveResamplesWrong)

/-- 'earshotlaw02.WaveSteady': WHATEVER THE INPUT: true; the input reads as it did. -/
def waveSteadySpec : ChangeSpec := { name := "waveSteady", fn := fun _ => fun
  | [d1, d2, d3] => { results := [.lit (.bool true)], args := [d1, d2, d3] }
  | _ => none }
def waveSteadyRow : OpenClaim := { program := "ytigbfcodnbnicaa", sum := "4d11bb657d9985dfae8a153feb131cce6b3a118ccc766b56c74b303c5583bb2a", func := "earshot/earshotlaw02.WaveSteady", spec := "waveSteady", unfollowed := true, recurses := true, apart := false }
def WaveSteadySaid : Prop := waveSteadyRow.holds Try.pinned (OpenSpec.ofChange waveSteadySpec)

/-- ITS FALSE NEIGHBOUR: 'it returns false'. Refute it at one input. -/
def waveSteadyWrong : ChangeSpec := { name := "waveSteady", fn := fun _ => fun
  | [d1, d2, d3] => { results := [.lit (.bool false)], args := [d1, d2, d3] }
  | _ => none }
def WaveSteadyWrongFalsely : Prop := waveSteadyRow.holds Try.pinned (OpenSpec.ofChange waveSteadyWrong)

/-- 'earshotlaw02.WaveWindows': WHATEVER THE INPUT: true; the input reads as it did. -/
def waveWindowsSpec : ChangeSpec := { name := "waveWindows", fn := fun _ => fun
  | [d1, d2] => { results := [.lit (.bool true)], args := [d1, d2] }
  | _ => none }
def waveWindowsRow : OpenClaim := { program := "ytigbfcodnbnicaa", sum := "4d11bb657d9985dfae8a153feb131cce6b3a118ccc766b56c74b303c5583bb2a", func := "earshot/earshotlaw02.WaveWindows", spec := "waveWindows", unfollowed := true, recurses := true, apart := false }
def WaveWindowsSaid : Prop := waveWindowsRow.holds Try.pinned (OpenSpec.ofChange waveWindowsSpec)

/-- ITS FALSE NEIGHBOUR: 'it returns false'. Refute it at one input. -/
def waveWindowsWrong : ChangeSpec := { name := "waveWindows", fn := fun _ => fun
  | [d1, d2] => { results := [.lit (.bool false)], args := [d1, d2] }
  | _ => none }
def WaveWindowsWrongFalsely : Prop := waveWindowsRow.holds Try.pinned (OpenSpec.ofChange waveWindowsWrong)

/-- 'earshotlaw02.WaveSegments': WHATEVER THE INPUT: true; the input reads as it did. -/
def waveSegmentsSpec : ChangeSpec := { name := "waveSegments", fn := fun _ => fun
  | [d1, d2] => { results := [.lit (.bool true)], args := [d1, d2] }
  | _ => none }
def waveSegmentsRow : OpenClaim := { program := "ytigbfcodnbnicaa", sum := "4d11bb657d9985dfae8a153feb131cce6b3a118ccc766b56c74b303c5583bb2a", func := "earshot/earshotlaw02.WaveSegments", spec := "waveSegments", unfollowed := true, recurses := true, apart := false }
def WaveSegmentsSaid : Prop := waveSegmentsRow.holds Try.pinned (OpenSpec.ofChange waveSegmentsSpec)

/-- ITS FALSE NEIGHBOUR: 'it returns false'. Refute it at one input. -/
def waveSegmentsWrong : ChangeSpec := { name := "waveSegments", fn := fun _ => fun
  | [d1, d2] => { results := [.lit (.bool false)], args := [d1, d2] }
  | _ => none }
def WaveSegmentsWrongFalsely : Prop := waveSegmentsRow.holds Try.pinned (OpenSpec.ofChange waveSegmentsWrong)

/-- 'earshotlaw02.WaveUnpacks': WHATEVER THE INPUT: true; the input reads as it did. -/
def waveUnpacksSpec : ChangeSpec := { name := "waveUnpacks", fn := fun _ => fun
  | [d] => { results := [.lit (.bool true)], args := [d] }
  | _ => none }
def waveUnpacksRow : OpenClaim := { program := "ytigbfcodnbnicaa", sum := "4d11bb657d9985dfae8a153feb131cce6b3a118ccc766b56c74b303c5583bb2a", func := "earshot/earshotlaw02.WaveUnpacks", spec := "waveUnpacks", unfollowed := true, recurses := true, apart := false }
def WaveUnpacksSaid : Prop := waveUnpacksRow.holds Try.pinned (OpenSpec.ofChange waveUnpacksSpec)

/-- ITS FALSE NEIGHBOUR: 'it returns false'. Refute it at one input. -/
def waveUnpacksWrong : ChangeSpec := { name := "waveUnpacks", fn := fun _ => fun
  | [d] => { results := [.lit (.bool false)], args := [d] }
  | _ => none }
def WaveUnpacksWrongFalsely : Prop := waveUnpacksRow.holds Try.pinned (OpenSpec.ofChange waveUnpacksWrong)

/-- 'earshotlaw02.WaveRefuses': WHATEVER THE INPUT: true; the input reads as it did. -/
def waveRefusesSpec : ChangeSpec := { name := "waveRefuses", fn := fun _ => fun
  | [d1, d2, d3, d4] => { results := [.lit (.bool true)], args := [d1, d2, d3, d4] }
  | _ => none }
def waveRefusesRow : OpenClaim := { program := "ytigbfcodnbnicaa", sum := "4d11bb657d9985dfae8a153feb131cce6b3a118ccc766b56c74b303c5583bb2a", func := "earshot/earshotlaw02.WaveRefuses", spec := "waveRefuses", unfollowed := true, recurses := true, apart := false }
def WaveRefusesSaid : Prop := waveRefusesRow.holds Try.pinned (OpenSpec.ofChange waveRefusesSpec)

/-- ITS FALSE NEIGHBOUR: 'it returns false'. Refute it at one input. -/
def waveRefusesWrong : ChangeSpec := { name := "waveRefuses", fn := fun _ => fun
  | [d1, d2, d3, d4] => { results := [.lit (.bool false)], args := [d1, d2, d3, d4] }
  | _ => none }
def WaveRefusesWrongFalsely : Prop := waveRefusesRow.holds Try.pinned (OpenSpec.ofChange waveRefusesWrong)

/-- 'earshotlaw02.WaveStores': WHATEVER THE INPUT: true; the input reads as it did. -/
def waveStoresSpec : ChangeSpec := { name := "waveStores", fn := fun _ => fun
  | [d1, d2, d3] => { results := [.lit (.bool true)], args := [d1, d2, d3] }
  | _ => none }
def waveStoresRow : OpenClaim := { program := "ytigbfcodnbnicaa", sum := "4d11bb657d9985dfae8a153feb131cce6b3a118ccc766b56c74b303c5583bb2a", func := "earshot/earshotlaw02.WaveStores", spec := "waveStores", unfollowed := true, recurses := true, apart := false }
def WaveStoresSaid : Prop := waveStoresRow.holds Try.pinned (OpenSpec.ofChange waveStoresSpec)

/-- ITS FALSE NEIGHBOUR: 'it returns false'. Refute it at one input. -/
def waveStoresWrong : ChangeSpec := { name := "waveStores", fn := fun _ => fun
  | [d1, d2, d3] => { results := [.lit (.bool false)], args := [d1, d2, d3] }
  | _ => none }
def WaveStoresWrongFalsely : Prop := waveStoresRow.holds Try.pinned (OpenSpec.ofChange waveStoresWrong)

/-- 'earshotlaw02.WaveOrder': WHATEVER THE INPUT: true; the input reads as it did. -/
def waveOrderSpec : ChangeSpec := { name := "waveOrder", fn := fun _ => fun
  | [d1, d2] => { results := [.lit (.bool true)], args := [d1, d2] }
  | _ => none }
def waveOrderRow : OpenClaim := { program := "ytigbfcodnbnicaa", sum := "4d11bb657d9985dfae8a153feb131cce6b3a118ccc766b56c74b303c5583bb2a", func := "earshot/earshotlaw02.WaveOrder", spec := "waveOrder", unfollowed := true, recurses := true, apart := false }
def WaveOrderSaid : Prop := waveOrderRow.holds Try.pinned (OpenSpec.ofChange waveOrderSpec)

/-- ITS FALSE NEIGHBOUR: 'it returns false'. Refute it at one input. -/
def waveOrderWrong : ChangeSpec := { name := "waveOrder", fn := fun _ => fun
  | [d1, d2] => { results := [.lit (.bool false)], args := [d1, d2] }
  | _ => none }
def WaveOrderWrongFalsely : Prop := waveOrderRow.holds Try.pinned (OpenSpec.ofChange waveOrderWrong)

/-- 'earshotlaw02.WaveListens': WHATEVER THE INPUT: true; the input reads as it did. -/
def waveListensSpec : ChangeSpec := { name := "waveListens", fn := fun _ => fun
  | [d1, d2, d3] => { results := [.lit (.bool true)], args := [d1, d2, d3] }
  | _ => none }
def waveListensRow : OpenClaim := { program := "ytigbfcodnbnicaa", sum := "4d11bb657d9985dfae8a153feb131cce6b3a118ccc766b56c74b303c5583bb2a", func := "earshot/earshotlaw02.WaveListens", spec := "waveListens", unfollowed := true, recurses := true, apart := false }
def WaveListensSaid : Prop := waveListensRow.holds Try.pinned (OpenSpec.ofChange waveListensSpec)

/-- ITS FALSE NEIGHBOUR: 'it returns false'. Refute it at one input. -/
def waveListensWrong : ChangeSpec := { name := "waveListens", fn := fun _ => fun
  | [d1, d2, d3] => { results := [.lit (.bool false)], args := [d1, d2, d3] }
  | _ => none }
def WaveListensWrongFalsely : Prop := waveListensRow.holds Try.pinned (OpenSpec.ofChange waveListensWrong)

/-- 'earshotlaw02.WaveNil': WHATEVER THE INPUT: true; the input reads as it did. -/
def waveNilSpec : ChangeSpec := { name := "waveNil", fn := fun _ => fun
  | [d] => { results := [.lit (.bool true)], args := [d] }
  | _ => none }
def waveNilRow : OpenClaim := { program := "ytigbfcodnbnicaa", sum := "4d11bb657d9985dfae8a153feb131cce6b3a118ccc766b56c74b303c5583bb2a", func := "earshot/earshotlaw02.WaveNil", spec := "waveNil", unfollowed := true, recurses := true, apart := false }
def WaveNilSaid : Prop := waveNilRow.holds Try.pinned (OpenSpec.ofChange waveNilSpec)

/-- ITS FALSE NEIGHBOUR: 'it returns false'. Refute it at one input. -/
def waveNilWrong : ChangeSpec := { name := "waveNil", fn := fun _ => fun
  | [d] => { results := [.lit (.bool false)], args := [d] }
  | _ => none }
def WaveNilWrongFalsely : Prop := waveNilRow.holds Try.pinned (OpenSpec.ofChange waveNilWrong)

/-- 'earshotlaw02.WaveWeighs': WHATEVER THE INPUT: true; the input reads as it did. -/
def waveWeighsSpec : ChangeSpec := { name := "waveWeighs", fn := fun _ => fun
  | [d1, d2] => { results := [.lit (.bool true)], args := [d1, d2] }
  | _ => none }
def waveWeighsRow : OpenClaim := { program := "ytigbfcodnbnicaa", sum := "4d11bb657d9985dfae8a153feb131cce6b3a118ccc766b56c74b303c5583bb2a", func := "earshot/earshotlaw02.WaveWeighs", spec := "waveWeighs", unfollowed := true, recurses := true, apart := false }
def WaveWeighsSaid : Prop := waveWeighsRow.holds Try.pinned (OpenSpec.ofChange waveWeighsSpec)

/-- ITS FALSE NEIGHBOUR: 'it returns false'. Refute it at one input. -/
def waveWeighsWrong : ChangeSpec := { name := "waveWeighs", fn := fun _ => fun
  | [d1, d2] => { results := [.lit (.bool false)], args := [d1, d2] }
  | _ => none }
def WaveWeighsWrongFalsely : Prop := waveWeighsRow.holds Try.pinned (OpenSpec.ofChange waveWeighsWrong)

/-- 'earshotlaw02.WaveClips': WHATEVER THE INPUT: true; the input reads as it did. -/
def waveClipsSpec : ChangeSpec := { name := "waveClips", fn := fun _ => fun
  | [d1, d2] => { results := [.lit (.bool true)], args := [d1, d2] }
  | _ => none }
def waveClipsRow : OpenClaim := { program := "ytigbfcodnbnicaa", sum := "4d11bb657d9985dfae8a153feb131cce6b3a118ccc766b56c74b303c5583bb2a", func := "earshot/earshotlaw02.WaveClips", spec := "waveClips", unfollowed := true, recurses := true, apart := false }
def WaveClipsSaid : Prop := waveClipsRow.holds Try.pinned (OpenSpec.ofChange waveClipsSpec)

/-- ITS FALSE NEIGHBOUR: 'it returns false'. Refute it at one input. -/
def waveClipsWrong : ChangeSpec := { name := "waveClips", fn := fun _ => fun
  | [d1, d2] => { results := [.lit (.bool false)], args := [d1, d2] }
  | _ => none }
def WaveClipsWrongFalsely : Prop := waveClipsRow.holds Try.pinned (OpenSpec.ofChange waveClipsWrong)

/-- 'earshotlaw02.WaveEmphasizes': WHATEVER THE INPUT: true; the input reads as it did. -/
def waveEmphasizesSpec : ChangeSpec := { name := "waveEmphasizes", fn := fun _ => fun
  | [d1, d2, d3] => { results := [.lit (.bool true)], args := [d1, d2, d3] }
  | _ => none }
def waveEmphasizesRow : OpenClaim := { program := "ytigbfcodnbnicaa", sum := "4d11bb657d9985dfae8a153feb131cce6b3a118ccc766b56c74b303c5583bb2a", func := "earshot/earshotlaw02.WaveEmphasizes", spec := "waveEmphasizes", unfollowed := true, recurses := true, apart := false }
def WaveEmphasizesSaid : Prop := waveEmphasizesRow.holds Try.pinned (OpenSpec.ofChange waveEmphasizesSpec)

/-- ITS FALSE NEIGHBOUR: 'it returns false'. Refute it at one input. -/
def waveEmphasizesWrong : ChangeSpec := { name := "waveEmphasizes", fn := fun _ => fun
  | [d1, d2, d3] => { results := [.lit (.bool false)], args := [d1, d2, d3] }
  | _ => none }
def WaveEmphasizesWrongFalsely : Prop := waveEmphasizesRow.holds Try.pinned (OpenSpec.ofChange waveEmphasizesWrong)

/-- 'earshotlaw02.WaveRestores': WHATEVER THE INPUT: true; the input reads as it did. -/
def waveRestoresSpec : ChangeSpec := { name := "waveRestores", fn := fun _ => fun
  | [d1, d2, d3] => { results := [.lit (.bool true)], args := [d1, d2, d3] }
  | _ => none }
def waveRestoresRow : OpenClaim := { program := "ytigbfcodnbnicaa", sum := "4d11bb657d9985dfae8a153feb131cce6b3a118ccc766b56c74b303c5583bb2a", func := "earshot/earshotlaw02.WaveRestores", spec := "waveRestores", unfollowed := true, recurses := true, apart := false }
def WaveRestoresSaid : Prop := waveRestoresRow.holds Try.pinned (OpenSpec.ofChange waveRestoresSpec)

/-- ITS FALSE NEIGHBOUR: 'it returns false'. Refute it at one input. -/
def waveRestoresWrong : ChangeSpec := { name := "waveRestores", fn := fun _ => fun
  | [d1, d2, d3] => { results := [.lit (.bool false)], args := [d1, d2, d3] }
  | _ => none }
def WaveRestoresWrongFalsely : Prop := waveRestoresRow.holds Try.pinned (OpenSpec.ofChange waveRestoresWrong)

/-- 'earshotlaw02.WavePacks': WHATEVER THE INPUT: true; the input reads as it did. -/
def wavePacksSpec : ChangeSpec := { name := "wavePacks", fn := fun _ => fun
  | [d] => { results := [.lit (.bool true)], args := [d] }
  | _ => none }
def wavePacksRow : OpenClaim := { program := "ytigbfcodnbnicaa", sum := "4d11bb657d9985dfae8a153feb131cce6b3a118ccc766b56c74b303c5583bb2a", func := "earshot/earshotlaw02.WavePacks", spec := "wavePacks", unfollowed := true, recurses := true, apart := false }
def WavePacksSaid : Prop := wavePacksRow.holds Try.pinned (OpenSpec.ofChange wavePacksSpec)

/-- ITS FALSE NEIGHBOUR: 'it returns false'. Refute it at one input. -/
def wavePacksWrong : ChangeSpec := { name := "wavePacks", fn := fun _ => fun
  | [d] => { results := [.lit (.bool false)], args := [d] }
  | _ => none }
def WavePacksWrongFalsely : Prop := wavePacksRow.holds Try.pinned (OpenSpec.ofChange wavePacksWrong)

/-- 'earshotlaw02.WaveFrames': WHATEVER THE INPUT: true; the input reads as it did. -/
def waveFramesSpec : ChangeSpec := { name := "waveFrames", fn := fun _ => fun
  | [d1, d2, d3, d4] => { results := [.lit (.bool true)], args := [d1, d2, d3, d4] }
  | _ => none }
def waveFramesRow : OpenClaim := { program := "ytigbfcodnbnicaa", sum := "4d11bb657d9985dfae8a153feb131cce6b3a118ccc766b56c74b303c5583bb2a", func := "earshot/earshotlaw02.WaveFrames", spec := "waveFrames", unfollowed := true, recurses := true, apart := false }
def WaveFramesSaid : Prop := waveFramesRow.holds Try.pinned (OpenSpec.ofChange waveFramesSpec)

/-- ITS FALSE NEIGHBOUR: 'it returns false'. Refute it at one input. -/
def waveFramesWrong : ChangeSpec := { name := "waveFrames", fn := fun _ => fun
  | [d1, d2, d3, d4] => { results := [.lit (.bool false)], args := [d1, d2, d3, d4] }
  | _ => none }
def WaveFramesWrongFalsely : Prop := waveFramesRow.holds Try.pinned (OpenSpec.ofChange waveFramesWrong)

/-- 'earshotlaw02.WavePieces': WHATEVER THE INPUT: true; the input reads as it did. -/
def wavePiecesSpec : ChangeSpec := { name := "wavePieces", fn := fun _ => fun
  | [d1, d2] => { results := [.lit (.bool true)], args := [d1, d2] }
  | _ => none }
def wavePiecesRow : OpenClaim := { program := "ytigbfcodnbnicaa", sum := "4d11bb657d9985dfae8a153feb131cce6b3a118ccc766b56c74b303c5583bb2a", func := "earshot/earshotlaw02.WavePieces", spec := "wavePieces", unfollowed := true, recurses := true, apart := false }
def WavePiecesSaid : Prop := wavePiecesRow.holds Try.pinned (OpenSpec.ofChange wavePiecesSpec)

/-- ITS FALSE NEIGHBOUR: 'it returns false'. Refute it at one input. -/
def wavePiecesWrong : ChangeSpec := { name := "wavePieces", fn := fun _ => fun
  | [d1, d2] => { results := [.lit (.bool false)], args := [d1, d2] }
  | _ => none }
def WavePiecesWrongFalsely : Prop := wavePiecesRow.holds Try.pinned (OpenSpec.ofChange wavePiecesWrong)

/-- 'earshotlaw02.WaveMeasures': WHATEVER THE INPUT: true; the input reads as it did. -/
def waveMeasuresSpec : ChangeSpec := { name := "waveMeasures", fn := fun _ => fun
  | [d] => { results := [.lit (.bool true)], args := [d] }
  | _ => none }
def waveMeasuresRow : OpenClaim := { program := "ytigbfcodnbnicaa", sum := "4d11bb657d9985dfae8a153feb131cce6b3a118ccc766b56c74b303c5583bb2a", func := "earshot/earshotlaw02.WaveMeasures", spec := "waveMeasures", unfollowed := true, recurses := true, apart := false }
def WaveMeasuresSaid : Prop := waveMeasuresRow.holds Try.pinned (OpenSpec.ofChange waveMeasuresSpec)

/-- ITS FALSE NEIGHBOUR: 'it returns false'. Refute it at one input. -/
def waveMeasuresWrong : ChangeSpec := { name := "waveMeasures", fn := fun _ => fun
  | [d] => { results := [.lit (.bool false)], args := [d] }
  | _ => none }
def WaveMeasuresWrongFalsely : Prop := waveMeasuresRow.holds Try.pinned (OpenSpec.ofChange waveMeasuresWrong)

/- THE SECOND FORM. 'bulk': how many values and letters a reading holds, each counted each time it is reached (what is shared counts as often as it is met; a slice's spare places count too). A statement '..UptoSaid' is the law's where the arguments, and the package variables that the reading takes, are together of bulk at most 1048576: NARROWER than '..Said'. Prove '..Said' where nothing that the law and all that it calls make is longer than what came in: it says more and counts as full. Else prove '..UptoSaid'. A law counts once. -/
mutual
def uptoBulk {H : Type} : DataW H → Nat
  | .lit (.string bytes) => bytes.length + 1
  | .lit _ => 1
  | .nil => 1
  | .ptr d => uptoBulk d + 1
  | .slice elems spare => uptoBulkAll elems + uptoBulkAll spare + 1
  | .agg parts => uptoBulkAll parts + 1
  | .iface _ d => uptoBulk d + 1
  | .map entries => uptoBulkEntries entries + 1
  | .held _ => 1
def uptoBulkAll {H : Type} : List (DataW H) → Nat
  | [] => 0
  | d :: r => uptoBulk d + uptoBulkAll r
def uptoBulkEntries {H : Type} : List (Lit × DataW H) → Nat
  | [] => 0
  | x :: r => uptoBulkEntry x + uptoBulkEntries r
def uptoBulkEntry {H : Type} : Lit × DataW H → Nat
  | (.string bytes, d) => bytes.length + uptoBulk d + 1
  | (_, d) => uptoBulk d + 1
 end
def uptoSmall : (H : Type) → List (DataW H) → Bool := fun _ ds => decide (uptoBulkAll ds ≤ 1048576)
def OpenSpec.upto (s : _root_.Go.ChangeSpec) : _root_.Go.OpenSpec := { _root_.Go.OpenSpec.ofChange s with cond := some uptoSmall }

/-- 'earshotlaw02.WaveResamples', WHERE WHAT IT READS IS OF BULK AT MOST 1048576: true; the input reads as it did. -/
def waveResamplesUptoRow : OpenClaim := { program := "ytigbfcodnbnicaa", sum := "4d11bb657d9985dfae8a153feb131cce6b3a118ccc766b56c74b303c5583bb2a", func := "earshot/earshotlaw02.WaveResamples", spec := "waveResamples", unfollowed := true, recurses := true, apart := false, narrowed := true }
def WaveResamplesUptoSaid : Prop := waveResamplesUptoRow.holds Try.pinned (OpenSpec.upto waveResamplesSpec)

/-- 'earshotlaw02.WaveSteady', WHERE WHAT IT READS IS OF BULK AT MOST 1048576: true; the input reads as it did. -/
def waveSteadyUptoRow : OpenClaim := { program := "ytigbfcodnbnicaa", sum := "4d11bb657d9985dfae8a153feb131cce6b3a118ccc766b56c74b303c5583bb2a", func := "earshot/earshotlaw02.WaveSteady", spec := "waveSteady", unfollowed := true, recurses := true, apart := false, narrowed := true }
def WaveSteadyUptoSaid : Prop := waveSteadyUptoRow.holds Try.pinned (OpenSpec.upto waveSteadySpec)

/-- 'earshotlaw02.WaveWindows', WHERE WHAT IT READS IS OF BULK AT MOST 1048576: true; the input reads as it did. -/
def waveWindowsUptoRow : OpenClaim := { program := "ytigbfcodnbnicaa", sum := "4d11bb657d9985dfae8a153feb131cce6b3a118ccc766b56c74b303c5583bb2a", func := "earshot/earshotlaw02.WaveWindows", spec := "waveWindows", unfollowed := true, recurses := true, apart := false, narrowed := true }
def WaveWindowsUptoSaid : Prop := waveWindowsUptoRow.holds Try.pinned (OpenSpec.upto waveWindowsSpec)

/-- 'earshotlaw02.WaveSegments', WHERE WHAT IT READS IS OF BULK AT MOST 1048576: true; the input reads as it did. -/
def waveSegmentsUptoRow : OpenClaim := { program := "ytigbfcodnbnicaa", sum := "4d11bb657d9985dfae8a153feb131cce6b3a118ccc766b56c74b303c5583bb2a", func := "earshot/earshotlaw02.WaveSegments", spec := "waveSegments", unfollowed := true, recurses := true, apart := false, narrowed := true }
def WaveSegmentsUptoSaid : Prop := waveSegmentsUptoRow.holds Try.pinned (OpenSpec.upto waveSegmentsSpec)

/-- 'earshotlaw02.WaveUnpacks', WHERE WHAT IT READS IS OF BULK AT MOST 1048576: true; the input reads as it did. -/
def waveUnpacksUptoRow : OpenClaim := { program := "ytigbfcodnbnicaa", sum := "4d11bb657d9985dfae8a153feb131cce6b3a118ccc766b56c74b303c5583bb2a", func := "earshot/earshotlaw02.WaveUnpacks", spec := "waveUnpacks", unfollowed := true, recurses := true, apart := false, narrowed := true }
def WaveUnpacksUptoSaid : Prop := waveUnpacksUptoRow.holds Try.pinned (OpenSpec.upto waveUnpacksSpec)

/-- 'earshotlaw02.WaveRefuses', WHERE WHAT IT READS IS OF BULK AT MOST 1048576: true; the input reads as it did. -/
def waveRefusesUptoRow : OpenClaim := { program := "ytigbfcodnbnicaa", sum := "4d11bb657d9985dfae8a153feb131cce6b3a118ccc766b56c74b303c5583bb2a", func := "earshot/earshotlaw02.WaveRefuses", spec := "waveRefuses", unfollowed := true, recurses := true, apart := false, narrowed := true }
def WaveRefusesUptoSaid : Prop := waveRefusesUptoRow.holds Try.pinned (OpenSpec.upto waveRefusesSpec)

/-- 'earshotlaw02.WaveStores', WHERE WHAT IT READS IS OF BULK AT MOST 1048576: true; the input reads as it did. -/
def waveStoresUptoRow : OpenClaim := { program := "ytigbfcodnbnicaa", sum := "4d11bb657d9985dfae8a153feb131cce6b3a118ccc766b56c74b303c5583bb2a", func := "earshot/earshotlaw02.WaveStores", spec := "waveStores", unfollowed := true, recurses := true, apart := false, narrowed := true }
def WaveStoresUptoSaid : Prop := waveStoresUptoRow.holds Try.pinned (OpenSpec.upto waveStoresSpec)

/-- 'earshotlaw02.WaveOrder', WHERE WHAT IT READS IS OF BULK AT MOST 1048576: true; the input reads as it did. -/
def waveOrderUptoRow : OpenClaim := { program := "ytigbfcodnbnicaa", sum := "4d11bb657d9985dfae8a153feb131cce6b3a118ccc766b56c74b303c5583bb2a", func := "earshot/earshotlaw02.WaveOrder", spec := "waveOrder", unfollowed := true, recurses := true, apart := false, narrowed := true }
def WaveOrderUptoSaid : Prop := waveOrderUptoRow.holds Try.pinned (OpenSpec.upto waveOrderSpec)

/-- 'earshotlaw02.WaveListens', WHERE WHAT IT READS IS OF BULK AT MOST 1048576: true; the input reads as it did. -/
def waveListensUptoRow : OpenClaim := { program := "ytigbfcodnbnicaa", sum := "4d11bb657d9985dfae8a153feb131cce6b3a118ccc766b56c74b303c5583bb2a", func := "earshot/earshotlaw02.WaveListens", spec := "waveListens", unfollowed := true, recurses := true, apart := false, narrowed := true }
def WaveListensUptoSaid : Prop := waveListensUptoRow.holds Try.pinned (OpenSpec.upto waveListensSpec)

/-- 'earshotlaw02.WaveNil', WHERE WHAT IT READS IS OF BULK AT MOST 1048576: true; the input reads as it did. -/
def waveNilUptoRow : OpenClaim := { program := "ytigbfcodnbnicaa", sum := "4d11bb657d9985dfae8a153feb131cce6b3a118ccc766b56c74b303c5583bb2a", func := "earshot/earshotlaw02.WaveNil", spec := "waveNil", unfollowed := true, recurses := true, apart := false, narrowed := true }
def WaveNilUptoSaid : Prop := waveNilUptoRow.holds Try.pinned (OpenSpec.upto waveNilSpec)

/-- 'earshotlaw02.WaveWeighs', WHERE WHAT IT READS IS OF BULK AT MOST 1048576: true; the input reads as it did. -/
def waveWeighsUptoRow : OpenClaim := { program := "ytigbfcodnbnicaa", sum := "4d11bb657d9985dfae8a153feb131cce6b3a118ccc766b56c74b303c5583bb2a", func := "earshot/earshotlaw02.WaveWeighs", spec := "waveWeighs", unfollowed := true, recurses := true, apart := false, narrowed := true }
def WaveWeighsUptoSaid : Prop := waveWeighsUptoRow.holds Try.pinned (OpenSpec.upto waveWeighsSpec)

/-- 'earshotlaw02.WaveClips', WHERE WHAT IT READS IS OF BULK AT MOST 1048576: true; the input reads as it did. -/
def waveClipsUptoRow : OpenClaim := { program := "ytigbfcodnbnicaa", sum := "4d11bb657d9985dfae8a153feb131cce6b3a118ccc766b56c74b303c5583bb2a", func := "earshot/earshotlaw02.WaveClips", spec := "waveClips", unfollowed := true, recurses := true, apart := false, narrowed := true }
def WaveClipsUptoSaid : Prop := waveClipsUptoRow.holds Try.pinned (OpenSpec.upto waveClipsSpec)

/-- 'earshotlaw02.WaveEmphasizes', WHERE WHAT IT READS IS OF BULK AT MOST 1048576: true; the input reads as it did. -/
def waveEmphasizesUptoRow : OpenClaim := { program := "ytigbfcodnbnicaa", sum := "4d11bb657d9985dfae8a153feb131cce6b3a118ccc766b56c74b303c5583bb2a", func := "earshot/earshotlaw02.WaveEmphasizes", spec := "waveEmphasizes", unfollowed := true, recurses := true, apart := false, narrowed := true }
def WaveEmphasizesUptoSaid : Prop := waveEmphasizesUptoRow.holds Try.pinned (OpenSpec.upto waveEmphasizesSpec)

/-- 'earshotlaw02.WaveRestores', WHERE WHAT IT READS IS OF BULK AT MOST 1048576: true; the input reads as it did. -/
def waveRestoresUptoRow : OpenClaim := { program := "ytigbfcodnbnicaa", sum := "4d11bb657d9985dfae8a153feb131cce6b3a118ccc766b56c74b303c5583bb2a", func := "earshot/earshotlaw02.WaveRestores", spec := "waveRestores", unfollowed := true, recurses := true, apart := false, narrowed := true }
def WaveRestoresUptoSaid : Prop := waveRestoresUptoRow.holds Try.pinned (OpenSpec.upto waveRestoresSpec)

/-- 'earshotlaw02.WavePacks', WHERE WHAT IT READS IS OF BULK AT MOST 1048576: true; the input reads as it did. -/
def wavePacksUptoRow : OpenClaim := { program := "ytigbfcodnbnicaa", sum := "4d11bb657d9985dfae8a153feb131cce6b3a118ccc766b56c74b303c5583bb2a", func := "earshot/earshotlaw02.WavePacks", spec := "wavePacks", unfollowed := true, recurses := true, apart := false, narrowed := true }
def WavePacksUptoSaid : Prop := wavePacksUptoRow.holds Try.pinned (OpenSpec.upto wavePacksSpec)

/-- 'earshotlaw02.WaveFrames', WHERE WHAT IT READS IS OF BULK AT MOST 1048576: true; the input reads as it did. -/
def waveFramesUptoRow : OpenClaim := { program := "ytigbfcodnbnicaa", sum := "4d11bb657d9985dfae8a153feb131cce6b3a118ccc766b56c74b303c5583bb2a", func := "earshot/earshotlaw02.WaveFrames", spec := "waveFrames", unfollowed := true, recurses := true, apart := false, narrowed := true }
def WaveFramesUptoSaid : Prop := waveFramesUptoRow.holds Try.pinned (OpenSpec.upto waveFramesSpec)

/-- 'earshotlaw02.WavePieces', WHERE WHAT IT READS IS OF BULK AT MOST 1048576: true; the input reads as it did. -/
def wavePiecesUptoRow : OpenClaim := { program := "ytigbfcodnbnicaa", sum := "4d11bb657d9985dfae8a153feb131cce6b3a118ccc766b56c74b303c5583bb2a", func := "earshot/earshotlaw02.WavePieces", spec := "wavePieces", unfollowed := true, recurses := true, apart := false, narrowed := true }
def WavePiecesUptoSaid : Prop := wavePiecesUptoRow.holds Try.pinned (OpenSpec.upto wavePiecesSpec)

/-- 'earshotlaw02.WaveMeasures', WHERE WHAT IT READS IS OF BULK AT MOST 1048576: true; the input reads as it did. -/
def waveMeasuresUptoRow : OpenClaim := { program := "ytigbfcodnbnicaa", sum := "4d11bb657d9985dfae8a153feb131cce6b3a118ccc766b56c74b303c5583bb2a", func := "earshot/earshotlaw02.WaveMeasures", spec := "waveMeasures", unfollowed := true, recurses := true, apart := false, narrowed := true }
def WaveMeasuresUptoSaid : Prop := waveMeasuresUptoRow.holds Try.pinned (OpenSpec.upto waveMeasuresSpec)

end Rows
end Go.Proofs.Ytigbfcodnbnicaa
