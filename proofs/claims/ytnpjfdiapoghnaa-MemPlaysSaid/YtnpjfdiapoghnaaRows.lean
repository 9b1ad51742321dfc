/-
  No cell of these rows narrows 'for every input' (looked for: loops, veiled, ifaces, maps, wideKeys, modest, calm, conditions, laid).
  DERIVED. THE GIVEN ROWS OF THIS SEAT. 21 by the template 'for every input the law returns true; each argument reads behind the call as it read before'; 0 by the template 'total and deterministic' (their statements: YtnpjfdiapoghnaaTotals.lean).
  GIVEN WITH THE SEED: the statements are not yours to turn. If you find one false, say at which input.
  Laid BY PROGRAM, IN A SANDBOX (cutbox-rows.mjs): the forced cells as the released guide's own fill.sh prints them over the translation 1ed37d5c60390538… (all of the seat's roots in one cut). By AI agents, Wed Nov 11 2026. No macro, syntax, notation, axiom, sorry.
-/
import Derived.Test.YtnpjfdiapoghnaaChecked
import GoSem.Claim
import GoSem.ClaimJoined
import GoSem.ClaimMapViews
import Derived.JoinedTies
import Derived.KernelRfl
namespace Go.Proofs.Ytnpjfdiapoghnaa
/- THE CELL 'sum', in the pinned program and in every row, IS THE sha256 OF THE DUMP (.gsa) THAT YtnpjfdiapoghnaaProg.lean LOADS. Nothing in Lean hashes anything: it is a label: what it is worth is what the hold of that sum in a sandbox is worth. -/
noncomputable def Try.pinned : Pinned := { name := "ytnpjfdiapoghnaa", sum := "1ed37d5c60390538ed8a56134e070fe67abf0ab78afedf4a45d8102005575b18", checked := Try.checked }
namespace Rows
def none {H : Type} : Left H := { results := [], args := [] }

/-- 'footlockerlaw01.WordHandles': WHATEVER THE INPUT: true; the input reads as it did. -/
def wordHandlesSpec : ChangeSpec := { name := "wordHandles", fn := fun _ => fun
  | [d1, d2] => { results := [.lit (.bool true)], args := [d1, d2] }
  | _ => none }
def wordHandlesRow : OpenClaim := { program := "ytnpjfdiapoghnaa", sum := "1ed37d5c60390538ed8a56134e070fe67abf0ab78afedf4a45d8102005575b18", func := "footlocker/footlockerlaw01.WordHandles", spec := "wordHandles", apart := false }
def WordHandlesSaid : Prop := wordHandlesRow.holds Try.pinned (OpenSpec.ofChange wordHandlesSpec)

/-- ITS FALSE NEIGHBOUR: 'it returns false'. Refute it at one input. -/
def wordHandlesWrong : ChangeSpec := { name := "wordHandles", fn := fun _ => fun
  | [d1, d2] => { results := [.lit (.bool false)], args := [d1, d2] }
  | _ => none }
def WordHandlesWrongFalsely : Prop := wordHandlesRow.holds Try.pinned (OpenSpec.ofChange wordHandlesWrong)

/-- 'footlockerlaw01.WordSlots': WHATEVER THE INPUT: true; the input reads as it did. -/
def wordSlotsSpec : ChangeSpec := { name := "wordSlots", fn := fun _ => fun
  | [d1, d2] => { results := [.lit (.bool true)], args := [d1, d2] }
  | _ => none }
def wordSlotsRow : OpenClaim := { program := "ytnpjfdiapoghnaa", sum := "1ed37d5c60390538ed8a56134e070fe67abf0ab78afedf4a45d8102005575b18", func := "footlocker/footlockerlaw01.WordSlots", spec := "wordSlots", apart := false }
def WordSlotsSaid : Prop := wordSlotsRow.holds Try.pinned (OpenSpec.ofChange wordSlotsSpec)

/-- ITS FALSE NEIGHBOUR: 'it returns false'. Refute it at one input. -/
def wordSlotsWrong : ChangeSpec := { name := "wordSlots", fn := fun _ => fun
  | [d1, d2] => { results := [.lit (.bool false)], args := [d1, d2] }
  | _ => none }
def WordSlotsWrongFalsely : Prop := wordSlotsRow.holds Try.pinned (OpenSpec.ofChange wordSlotsWrong)

/-- 'footlockerlaw01.WordParts': WHATEVER THE INPUT: true; the input reads as it did. -/
def wordPartsSpec : ChangeSpec := { name := "wordParts", fn := fun _ => fun
  | [d1, d2, d3] => { results := [.lit (.bool true)], args := [d1, d2, d3] }
  | _ => none }
def wordPartsRow : OpenClaim := { program := "ytnpjfdiapoghnaa", sum := "1ed37d5c60390538ed8a56134e070fe67abf0ab78afedf4a45d8102005575b18", func := "footlocker/footlockerlaw01.WordParts", spec := "wordParts", apart := false }
def WordPartsSaid : Prop := wordPartsRow.holds Try.pinned (OpenSpec.ofChange wordPartsSpec)

/-- ITS FALSE NEIGHBOUR: 'it returns false'. Refute it at one input. -/
def wordPartsWrong : ChangeSpec := { name := "wordParts", fn := fun _ => fun
  | [d1, d2, d3] => { results := [.lit (.bool false)], args := [d1, d2, d3] }
  | _ => none }
def WordPartsWrongFalsely : Prop := wordPartsRow.holds Try.pinned (OpenSpec.ofChange wordPartsWrong)

/-- 'footlockerlaw01.WordLives': WHATEVER THE INPUT: true; the input reads as it did. -/
def wordLivesSpec : ChangeSpec := { name := "wordLives", fn := fun _ => fun
  | [d1, d2] => { results := [.lit (.bool true)], args := [d1, d2] }
  | _ => none }
def wordLivesRow : OpenClaim := { program := "ytnpjfdiapoghnaa", sum := "1ed37d5c60390538ed8a56134e070fe67abf0ab78afedf4a45d8102005575b18", func := "footlocker/footlockerlaw01.WordLives", spec := "wordLives", apart := false }
def WordLivesSaid : Prop := wordLivesRow.holds Try.pinned (OpenSpec.ofChange wordLivesSpec)

/-- ITS FALSE NEIGHBOUR: 'it returns false'. Refute it at one input. -/
def wordLivesWrong : ChangeSpec := { name := "wordLives", fn := fun _ => fun
  | [d1, d2] => { results := [.lit (.bool false)], args := [d1, d2] }
  | _ => none }
def WordLivesWrongFalsely : Prop := wordLivesRow.holds Try.pinned (OpenSpec.ofChange wordLivesWrong)

/-- 'footlockerlaw01.WordTops': WHATEVER THE INPUT: true; the input reads as it did. -/
def wordTopsSpec : ChangeSpec := { name := "wordTops", fn := fun _ => fun
  | [d1, d2] => { results := [.lit (.bool true)], args := [d1, d2] }
  | _ => none }
def wordTopsRow : OpenClaim := { program := "ytnpjfdiapoghnaa", sum := "1ed37d5c60390538ed8a56134e070fe67abf0ab78afedf4a45d8102005575b18", func := "footlocker/footlockerlaw01.WordTops", spec := "wordTops", apart := false }
def WordTopsSaid : Prop := wordTopsRow.holds Try.pinned (OpenSpec.ofChange wordTopsSpec)

/-- ITS FALSE NEIGHBOUR: 'it returns false'. Refute it at one input. -/
def wordTopsWrong : ChangeSpec := { name := "wordTops", fn := fun _ => fun
  | [d1, d2] => { results := [.lit (.bool false)], args := [d1, d2] }
  | _ => none }
def WordTopsWrongFalsely : Prop := wordTopsRow.holds Try.pinned (OpenSpec.ofChange wordTopsWrong)

/-- 'footlockerlaw01.WordChunks': WHATEVER THE INPUT: true; the input reads as it did. -/
def wordChunksSpec : ChangeSpec := { name := "wordChunks", fn := fun _ => fun
  | [d1, d2] => { results := [.lit (.bool true)], args := [d1, d2] }
  | _ => none }
def wordChunksRow : OpenClaim := { program := "ytnpjfdiapoghnaa", sum := "1ed37d5c60390538ed8a56134e070fe67abf0ab78afedf4a45d8102005575b18", func := "footlocker/footlockerlaw01.WordChunks", spec := "wordChunks", apart := false }
def WordChunksSaid : Prop := wordChunksRow.holds Try.pinned (OpenSpec.ofChange wordChunksSpec)

/-- ITS FALSE NEIGHBOUR: 'it returns false'. Refute it at one input. -/
def wordChunksWrong : ChangeSpec := { name := "wordChunks", fn := fun _ => fun
  | [d1, d2] => { results := [.lit (.bool false)], args := [d1, d2] }
  | _ => none }
def WordChunksWrongFalsely : Prop := wordChunksRow.holds Try.pinned (OpenSpec.ofChange wordChunksWrong)

/-- 'footlockerlaw01.WordApart': WHATEVER THE INPUT: true; the input reads as it did. -/
def wordApartSpec : ChangeSpec := { name := "wordApart", fn := fun _ => fun
  | [d1, d2] => { results := [.lit (.bool true)], args := [d1, d2] }
  | _ => none }
def wordApartRow : OpenClaim := { program := "ytnpjfdiapoghnaa", sum := "1ed37d5c60390538ed8a56134e070fe67abf0ab78afedf4a45d8102005575b18", func := "footlocker/footlockerlaw01.WordApart", spec := "wordApart", apart := false }
def WordApartSaid : Prop := wordApartRow.holds Try.pinned (OpenSpec.ofChange wordApartSpec)

/-- ITS FALSE NEIGHBOUR: 'it returns false'. Refute it at one input. -/
def wordApartWrong : ChangeSpec := { name := "wordApart", fn := fun _ => fun
  | [d1, d2] => { results := [.lit (.bool false)], args := [d1, d2] }
  | _ => none }
def WordApartWrongFalsely : Prop := wordApartRow.holds Try.pinned (OpenSpec.ofChange wordApartWrong)

/-- 'footlockerlaw01.WordHeads': WHATEVER THE INPUT: true; the input reads as it did. -/
def wordHeadsSpec : ChangeSpec := { name := "wordHeads", fn := fun _ => fun
  | [d1, d2] => { results := [.lit (.bool true)], args := [d1, d2] }
  | _ => none }
def wordHeadsRow : OpenClaim := { program := "ytnpjfdiapoghnaa", sum := "1ed37d5c60390538ed8a56134e070fe67abf0ab78afedf4a45d8102005575b18", func := "footlocker/footlockerlaw01.WordHeads", spec := "wordHeads", apart := false }
def WordHeadsSaid : Prop := wordHeadsRow.holds Try.pinned (OpenSpec.ofChange wordHeadsSpec)

/-- ITS FALSE NEIGHBOUR: 'it returns false'. Refute it at one input. -/
def wordHeadsWrong : ChangeSpec := { name := "wordHeads", fn := fun _ => fun
  | [d1, d2] => { results := [.lit (.bool false)], args := [d1, d2] }
  | _ => none }
def WordHeadsWrongFalsely : Prop := wordHeadsRow.holds Try.pinned (OpenSpec.ofChange wordHeadsWrong)

/-- 'footlockerlaw01.WordCells': WHATEVER THE INPUT: true; the input reads as it did. -/
def wordCellsSpec : ChangeSpec := { name := "wordCells", fn := fun _ => fun
  | [d1, d2] => { results := [.lit (.bool true)], args := [d1, d2] }
  | _ => none }
def wordCellsRow : OpenClaim := { program := "ytnpjfdiapoghnaa", sum := "1ed37d5c60390538ed8a56134e070fe67abf0ab78afedf4a45d8102005575b18", func := "footlocker/footlockerlaw01.WordCells", spec := "wordCells", apart := false }
def WordCellsSaid : Prop := wordCellsRow.holds Try.pinned (OpenSpec.ofChange wordCellsSpec)

/-- ITS FALSE NEIGHBOUR: 'it returns false'. Refute it at one input. -/
def wordCellsWrong : ChangeSpec := { name := "wordCells", fn := fun _ => fun
  | [d1, d2] => { results := [.lit (.bool false)], args := [d1, d2] }
  | _ => none }
def WordCellsWrongFalsely : Prop := wordCellsRow.holds Try.pinned (OpenSpec.ofChange wordCellsWrong)

/-- 'footlockerlaw02.MemAdds': WHATEVER THE INPUT: true; the input reads as it did. -/
def memAddsSpec : ChangeSpec := { name := "memAdds", fn := fun _ => fun
  | [d] => { results := [.lit (.bool true)], args := [d] }
  | _ => none }
def memAddsRow : OpenClaim := { program := "ytnpjfdiapoghnaa", sum := "1ed37d5c60390538ed8a56134e070fe67abf0ab78afedf4a45d8102005575b18", func := "footlocker/footlockerlaw02.MemAdds", spec := "memAdds", apart := false }
def MemAddsSaid : Prop := memAddsRow.holds Try.pinned (OpenSpec.ofChange memAddsSpec)

/-- ITS FALSE NEIGHBOUR: 'it returns false'. Refute it at one input. -/
def memAddsWrong : ChangeSpec := { name := "memAdds", fn := fun _ => fun
  | [d] => { results := [.lit (.bool false)], args := [d] }
  | _ => none }
def MemAddsWrongFalsely : Prop := memAddsRow.holds Try.pinned (OpenSpec.ofChange memAddsWrong)

/-- 'footlockerlaw02.MemOne': WHATEVER THE INPUT: true; the input reads as it did. -/
def memOneSpec : ChangeSpec := { name := "memOne", fn := fun _ => fun
  | [d] => { results := [.lit (.bool true)], args := [d] }
  | _ => none }
def memOneRow : OpenClaim := { program := "ytnpjfdiapoghnaa", sum := "1ed37d5c60390538ed8a56134e070fe67abf0ab78afedf4a45d8102005575b18", func := "footlocker/footlockerlaw02.MemOne", spec := "memOne", apart := false }
def MemOneSaid : Prop := memOneRow.holds Try.pinned (OpenSpec.ofChange memOneSpec)

/-- ITS FALSE NEIGHBOUR: 'it returns false'. Refute it at one input. -/
def memOneWrong : ChangeSpec := { name := "memOne", fn := fun _ => fun
  | [d] => { results := [.lit (.bool false)], args := [d] }
  | _ => none }
def MemOneWrongFalsely : Prop := memOneRow.holds Try.pinned (OpenSpec.ofChange memOneWrong)

/-- 'footlockerlaw02.MemApart': WHATEVER THE INPUT: true; the input reads as it did. -/
def memApartSpec : ChangeSpec := { name := "memApart", fn := fun _ => fun
  | [d1, d2] => { results := [.lit (.bool true)], args := [d1, d2] }
  | _ => none }
def memApartRow : OpenClaim := { program := "ytnpjfdiapoghnaa", sum := "1ed37d5c60390538ed8a56134e070fe67abf0ab78afedf4a45d8102005575b18", func := "footlocker/footlockerlaw02.MemApart", spec := "memApart", apart := false }
def MemApartSaid : Prop := memApartRow.holds Try.pinned (OpenSpec.ofChange memApartSpec)

/-- ITS FALSE NEIGHBOUR: 'it returns false'. Refute it at one input. -/
def memApartWrong : ChangeSpec := { name := "memApart", fn := fun _ => fun
  | [d1, d2] => { results := [.lit (.bool false)], args := [d1, d2] }
  | _ => none }
def MemApartWrongFalsely : Prop := memApartRow.holds Try.pinned (OpenSpec.ofChange memApartWrong)

/-- 'footlockerlaw02.MemPlays': WHATEVER THE INPUT: true; the input reads as it did. -/
def memPlaysSpec : ChangeSpec := { name := "memPlays", fn := fun _ => fun
  | [d1, d2] => { results := [.lit (.bool true)], args := [d1, d2] }
  | _ => none }
def memPlaysRow : OpenClaim := { program := "ytnpjfdiapoghnaa", sum := "1ed37d5c60390538ed8a56134e070fe67abf0ab78afedf4a45d8102005575b18", func := "footlocker/footlockerlaw02.MemPlays", spec := "memPlays", apart := false }
def MemPlaysSaid : Prop := memPlaysRow.holds Try.pinned (OpenSpec.ofChange memPlaysSpec)

/-- ITS FALSE NEIGHBOUR: 'it returns false'. Refute it at one input. -/
def memPlaysWrong : ChangeSpec := { name := "memPlays", fn := fun _ => fun
  | [d1, d2] => { results := [.lit (.bool false)], args := [d1, d2] }
  | _ => none }
def MemPlaysWrongFalsely : Prop := memPlaysRow.holds Try.pinned (OpenSpec.ofChange memPlaysWrong)

/-- 'footlockerlaw02.MemNone': WHATEVER THE INPUT: true; the input reads as it did. -/
def memNoneSpec : ChangeSpec := { name := "memNone", fn := fun _ => fun
  | [d1, d2] => { results := [.lit (.bool true)], args := [d1, d2] }
  | _ => none }
def memNoneRow : OpenClaim := { program := "ytnpjfdiapoghnaa", sum := "1ed37d5c60390538ed8a56134e070fe67abf0ab78afedf4a45d8102005575b18", func := "footlocker/footlockerlaw02.MemNone", spec := "memNone", apart := false }
def MemNoneSaid : Prop := memNoneRow.holds Try.pinned (OpenSpec.ofChange memNoneSpec)

/-- ITS FALSE NEIGHBOUR: 'it returns false'. Refute it at one input. -/
def memNoneWrong : ChangeSpec := { name := "memNone", fn := fun _ => fun
  | [d1, d2] => { results := [.lit (.bool false)], args := [d1, d2] }
  | _ => none }
def MemNoneWrongFalsely : Prop := memNoneRow.holds Try.pinned (OpenSpec.ofChange memNoneWrong)

/-- 'footlockerlaw05.PinMany': WHATEVER THE INPUT: true; the input reads as it did. -/
def pinManySpec : ChangeSpec := { name := "pinMany", fn := fun _ => fun
  | [d] => { results := [.lit (.bool true)], args := [d] }
  | _ => none }
def pinManyRow : OpenClaim := { program := "ytnpjfdiapoghnaa", sum := "1ed37d5c60390538ed8a56134e070fe67abf0ab78afedf4a45d8102005575b18", func := "footlocker/footlockerlaw05.PinMany", spec := "pinMany", apart := false }
def PinManySaid : Prop := pinManyRow.holds Try.pinned (OpenSpec.ofChange pinManySpec)

/-- ITS FALSE NEIGHBOUR: 'it returns false'. Refute it at one input. -/
def pinManyWrong : ChangeSpec := { name := "pinMany", fn := fun _ => fun
  | [d] => { results := [.lit (.bool false)], args := [d] }
  | _ => none }
def PinManyWrongFalsely : Prop := pinManyRow.holds Try.pinned (OpenSpec.ofChange pinManyWrong)

/-- 'footlockerlaw05.PinRaces': WHATEVER THE INPUT: true; the input reads as it did. -/
def pinRacesSpec : ChangeSpec := { name := "pinRaces", fn := fun _ => fun
  | [d] => { results := [.lit (.bool true)], args := [d] }
  | _ => none }
def pinRacesRow : OpenClaim := { program := "ytnpjfdiapoghnaa", sum := "1ed37d5c60390538ed8a56134e070fe67abf0ab78afedf4a45d8102005575b18", func := "footlocker/footlockerlaw05.PinRaces", spec := "pinRaces", apart := false }
def PinRacesSaid : Prop := pinRacesRow.holds Try.pinned (OpenSpec.ofChange pinRacesSpec)

/-- ITS FALSE NEIGHBOUR: 'it returns false'. Refute it at one input. -/
def pinRacesWrong : ChangeSpec := { name := "pinRaces", fn := fun _ => fun
  | [d] => { results := [.lit (.bool false)], args := [d] }
  | _ => none }
def PinRacesWrongFalsely : Prop := pinRacesRow.holds Try.pinned (OpenSpec.ofChange pinRacesWrong)

/-- 'footlockerlaw13.EpochGoes': WHATEVER THE INPUT: true; the input reads as it did. -/
def epochGoesSpec : ChangeSpec := { name := "epochGoes", fn := fun _ => fun
  | [d1, d2] => { results := [.lit (.bool true)], args := [d1, d2] }
  | _ => none }
def epochGoesRow : OpenClaim := { program := "ytnpjfdiapoghnaa", sum := "1ed37d5c60390538ed8a56134e070fe67abf0ab78afedf4a45d8102005575b18", func := "footlocker/footlockerlaw13.EpochGoes", spec := "epochGoes", apart := false }
def EpochGoesSaid : Prop := epochGoesRow.holds Try.pinned (OpenSpec.ofChange epochGoesSpec)

/-- ITS FALSE NEIGHBOUR: 'it returns false'. Refute it at one input. -/
def epochGoesWrong : ChangeSpec := { name := "epochGoes", fn := fun _ => fun
  | [d1, d2] => { results := [.lit (.bool false)], args := [d1, d2] }
  | _ => none }
def EpochGoesWrongFalsely : Prop := epochGoesRow.holds Try.pinned (OpenSpec.ofChange epochGoesWrong)

/-- 'footlockerlaw05.PinSteps': WHATEVER THE INPUT: true; the input reads as it did. -/
def pinStepsSpec : ChangeSpec := { name := "pinSteps", fn := fun _ => fun
  | [d] => { results := [.lit (.bool true)], args := [d] }
  | _ => none }
def pinStepsRow : OpenClaim := { program := "ytnpjfdiapoghnaa", sum := "1ed37d5c60390538ed8a56134e070fe67abf0ab78afedf4a45d8102005575b18", func := "footlocker/footlockerlaw05.PinSteps", spec := "pinSteps", apart := false }
def PinStepsSaid : Prop := pinStepsRow.holds Try.pinned (OpenSpec.ofChange pinStepsSpec)

/-- ITS FALSE NEIGHBOUR: 'it returns false'. Refute it at one input. -/
def pinStepsWrong : ChangeSpec := { name := "pinSteps", fn := fun _ => fun
  | [d] => { results := [.lit (.bool false)], args := [d] }
  | _ => none }
def PinStepsWrongFalsely : Prop := pinStepsRow.holds Try.pinned (OpenSpec.ofChange pinStepsWrong)

/-- 'footlockerlaw13.EpochMany': WHATEVER THE INPUT: true; the input reads as it did. -/
def epochManySpec : ChangeSpec := { name := "epochMany", fn := fun _ => fun
  | [d1, d2] => { results := [.lit (.bool true)], args := [d1, d2] }
  | _ => none }
def epochManyRow : OpenClaim := { program := "ytnpjfdiapoghnaa", sum := "1ed37d5c60390538ed8a56134e070fe67abf0ab78afedf4a45d8102005575b18", func := "footlocker/footlockerlaw13.EpochMany", spec := "epochMany", apart := false }
def EpochManySaid : Prop := epochManyRow.holds Try.pinned (OpenSpec.ofChange epochManySpec)

/-- ITS FALSE NEIGHBOUR: 'it returns false'. Refute it at one input. -/
def epochManyWrong : ChangeSpec := { name := "epochMany", fn := fun _ => fun
  | [d1, d2] => { results := [.lit (.bool false)], args := [d1, d2] }
  | _ => none }
def EpochManyWrongFalsely : Prop := epochManyRow.holds Try.pinned (OpenSpec.ofChange epochManyWrong)

/-- 'footlockerlaw13.EpochPinned': WHATEVER THE INPUT: true; the input reads as it did. -/
def epochPinnedSpec : ChangeSpec := { name := "epochPinned", fn := fun _ => fun
  | [d1, d2] => { results := [.lit (.bool true)], args := [d1, d2] }
  | _ => none }
def epochPinnedRow : OpenClaim := { program := "ytnpjfdiapoghnaa", sum := "1ed37d5c60390538ed8a56134e070fe67abf0ab78afedf4a45d8102005575b18", func := "footlocker/footlockerlaw13.EpochPinned", spec := "epochPinned", apart := false }
def EpochPinnedSaid : Prop := epochPinnedRow.holds Try.pinned (OpenSpec.ofChange epochPinnedSpec)

/-- ITS FALSE NEIGHBOUR: 'it returns false'. Refute it at one input. -/
def epochPinnedWrong : ChangeSpec := { name := "epochPinned", fn := fun _ => fun
  | [d1, d2] => { results := [.lit (.bool false)], args := [d1, d2] }
  | _ => none }
def EpochPinnedWrongFalsely : Prop := epochPinnedRow.holds Try.pinned (OpenSpec.ofChange epochPinnedWrong)

/-- 'footlockerlaw13.EpochSteps': WHATEVER THE INPUT: true; the input reads as it did. -/
def epochStepsSpec : ChangeSpec := { name := "epochSteps", fn := fun _ => fun
  | [d1, d2] => { results := [.lit (.bool true)], args := [d1, d2] }
  | _ => none }
def epochStepsRow : OpenClaim := { program := "ytnpjfdiapoghnaa", sum := "1ed37d5c60390538ed8a56134e070fe67abf0ab78afedf4a45d8102005575b18", func := "footlocker/footlockerlaw13.EpochSteps", spec := "epochSteps", apart := false }
def EpochStepsSaid : Prop := epochStepsRow.holds Try.pinned (OpenSpec.ofChange epochStepsSpec)

/-- ITS FALSE NEIGHBOUR: 'it returns false'. Refute it at one input. -/
def epochStepsWrong : ChangeSpec := { name := "epochSteps", fn := fun _ => fun
  | [d1, d2] => { results := [.lit (.bool false)], args := [d1, d2] }
  | _ => none }
def EpochStepsWrongFalsely : Prop := epochStepsRow.holds Try.pinned (OpenSpec.ofChange epochStepsWrong)

/- THE SECOND FORM. 'bulk': how many values and letters a reading holds, each counted each time it is reached (what is shared counts as often as it is met; a slice's spare places count too). A statement '..UptoSaid' is the law's where the arguments, and the package variables that the reading takes, are together of bulk at most 1048576: NARROWER than '..Said'. Prove '..Said' where nothing that the law and all that it calls make is longer than what came in: it says more and counts as full. Else prove '..UptoSaid'. A law counts once. -/
mutual
def uptoBulk {H : Type} : DataW H → Nat
  | .lit (.string bytes) => bytes.length + 1
  | .lit _ => 1
  | .nil => 1
  | .ptr d => uptoBulk d + 1
  | .slice elems spare => uptoBulkAll elems + uptoBulkAll spare + 1
  | .agg parts => uptoBulkAll parts + 1
  | .iface _ d => uptoBulk d + 1
  | .map entries => uptoBulkEntries entries + 1
  | .held _ => 1
def uptoBulkAll {H : Type} : List (DataW H) → Nat
  | [] => 0
  | d :: r => uptoBulk d + uptoBulkAll r
def uptoBulkEntries {H : Type} : List (Lit × DataW H) → Nat
  | [] => 0
  | x :: r => uptoBulkEntry x + uptoBulkEntries r
def uptoBulkEntry {H : Type} : Lit × DataW H → Nat
  | (.string bytes, d) => bytes.length + uptoBulk d + 1
  | (_, d) => uptoBulk d + 1
 end
def uptoSmall : (H : Type) → List (DataW H) → Bool := fun _ ds => decide (uptoBulkAll ds ≤ 1048576)
def OpenSpec.upto (s : _root_.Go.ChangeSpec) : _root_.Go.OpenSpec := { _root_.Go.OpenSpec.ofChange s with cond := some uptoSmall }

/-- 'footlockerlaw01.WordHandles', WHERE WHAT IT READS IS OF BULK AT MOST 1048576: true; the input reads as it did. -/
def wordHandlesUptoRow : OpenClaim := { program := "ytnpjfdiapoghnaa", sum := "1ed37d5c60390538ed8a56134e070fe67abf0ab78afedf4a45d8102005575b18", func := "footlocker/footlockerlaw01.WordHandles", spec := "wordHandles", apart := false, narrowed := true }
def WordHandlesUptoSaid : Prop := wordHandlesUptoRow.holds Try.pinned (OpenSpec.upto wordHandlesSpec)

/-- 'footlockerlaw01.WordSlots', WHERE WHAT IT READS IS OF BULK AT MOST 1048576: true; the input reads as it did. -/
def wordSlotsUptoRow : OpenClaim := { program := "ytnpjfdiapoghnaa", sum := "1ed37d5c60390538ed8a56134e070fe67abf0ab78afedf4a45d8102005575b18", func := "footlocker/footlockerlaw01.WordSlots", spec := "wordSlots", apart := false, narrowed := true }
def WordSlotsUptoSaid : Prop := wordSlotsUptoRow.holds Try.pinned (OpenSpec.upto wordSlotsSpec)

/-- 'footlockerlaw01.WordParts', WHERE WHAT IT READS IS OF BULK AT MOST 1048576: true; the input reads as it did. -/
def wordPartsUptoRow : OpenClaim := { program := "ytnpjfdiapoghnaa", sum := "1ed37d5c60390538ed8a56134e070fe67abf0ab78afedf4a45d8102005575b18", func := "footlocker/footlockerlaw01.WordParts", spec := "wordParts", apart := false, narrowed := true }
def WordPartsUptoSaid : Prop := wordPartsUptoRow.holds Try.pinned (OpenSpec.upto wordPartsSpec)

/-- 'footlockerlaw01.WordLives', WHERE WHAT IT READS IS OF BULK AT MOST 1048576: true; the input reads as it did. -/
def wordLivesUptoRow : OpenClaim := { program := "ytnpjfdiapoghnaa", sum := "1ed37d5c60390538ed8a56134e070fe67abf0ab78afedf4a45d8102005575b18", func := "footlocker/footlockerlaw01.WordLives", spec := "wordLives", apart := false, narrowed := true }
def WordLivesUptoSaid : Prop := wordLivesUptoRow.holds Try.pinned (OpenSpec.upto wordLivesSpec)

/-- 'footlockerlaw01.WordTops', WHERE WHAT IT READS IS OF BULK AT MOST 1048576: true; the input reads as it did. -/
def wordTopsUptoRow : OpenClaim := { program := "ytnpjfdiapoghnaa", sum := "1ed37d5c60390538ed8a56134e070fe67abf0ab78afedf4a45d8102005575b18", func := "footlocker/footlockerlaw01.WordTops", spec := "wordTops", apart := false, narrowed := true }
def WordTopsUptoSaid : Prop := wordTopsUptoRow.holds Try.pinned (OpenSpec.upto wordTopsSpec)

/-- 'footlockerlaw01.WordChunks', WHERE WHAT IT READS IS OF BULK AT MOST 1048576: true; the input reads as it did. -/
def wordChunksUptoRow : OpenClaim := { program := "ytnpjfdiapoghnaa", sum := "1ed37d5c60390538ed8a56134e070fe67abf0ab78afedf4a45d8102005575b18", func := "footlocker/footlockerlaw01.WordChunks", spec := "wordChunks", apart := false, narrowed := true }
def WordChunksUptoSaid : Prop := wordChunksUptoRow.holds Try.pinned (OpenSpec.upto wordChunksSpec)

/-- 'footlockerlaw01.WordApart', WHERE WHAT IT READS IS OF BULK AT MOST 1048576: true; the input reads as it did. -/
def wordApartUptoRow : OpenClaim := { program := "ytnpjfdiapoghnaa", sum := "1ed37d5c60390538ed8a56134e070fe67abf0ab78afedf4a45d8102005575b18", func := "footlocker/footlockerlaw01.WordApart", spec := "wordApart", apart := false, narrowed := true }
def WordApartUptoSaid : Prop := wordApartUptoRow.holds Try.pinned (OpenSpec.upto wordApartSpec)

/-- 'footlockerlaw01.WordHeads', WHERE WHAT IT READS IS OF BULK AT MOST 1048576: true; the input reads as it did. -/
def wordHeadsUptoRow : OpenClaim := { program := "ytnpjfdiapoghnaa", sum := "1ed37d5c60390538ed8a56134e070fe67abf0ab78afedf4a45d8102005575b18", func := "footlocker/footlockerlaw01.WordHeads", spec := "wordHeads", apart := false, narrowed := true }
def WordHeadsUptoSaid : Prop := wordHeadsUptoRow.holds Try.pinned (OpenSpec.upto wordHeadsSpec)

/-- 'footlockerlaw01.WordCells', WHERE WHAT IT READS IS OF BULK AT MOST 1048576: true; the input reads as it did. -/
def wordCellsUptoRow : OpenClaim := { program := "ytnpjfdiapoghnaa", sum := "1ed37d5c60390538ed8a56134e070fe67abf0ab78afedf4a45d8102005575b18", func := "footlocker/footlockerlaw01.WordCells", spec := "wordCells", apart := false, narrowed := true }
def WordCellsUptoSaid : Prop := wordCellsUptoRow.holds Try.pinned (OpenSpec.upto wordCellsSpec)

/-- 'footlockerlaw02.MemAdds', WHERE WHAT IT READS IS OF BULK AT MOST 1048576: true; the input reads as it did. -/
def memAddsUptoRow : OpenClaim := { program := "ytnpjfdiapoghnaa", sum := "1ed37d5c60390538ed8a56134e070fe67abf0ab78afedf4a45d8102005575b18", func := "footlocker/footlockerlaw02.MemAdds", spec := "memAdds", apart := false, narrowed := true }
def MemAddsUptoSaid : Prop := memAddsUptoRow.holds Try.pinned (OpenSpec.upto memAddsSpec)

/-- 'footlockerlaw02.MemOne', WHERE WHAT IT READS IS OF BULK AT MOST 1048576: true; the input reads as it did. -/
def memOneUptoRow : OpenClaim := { program := "ytnpjfdiapoghnaa", sum := "1ed37d5c60390538ed8a56134e070fe67abf0ab78afedf4a45d8102005575b18", func := "footlocker/footlockerlaw02.MemOne", spec := "memOne", apart := false, narrowed := true }
def MemOneUptoSaid : Prop := memOneUptoRow.holds Try.pinned (OpenSpec.upto memOneSpec)

/-- 'footlockerlaw02.MemApart', WHERE WHAT IT READS IS OF BULK AT MOST 1048576: true; the input reads as it did. -/
def memApartUptoRow : OpenClaim := { program := "ytnpjfdiapoghnaa", sum := "1ed37d5c60390538ed8a56134e070fe67abf0ab78afedf4a45d8102005575b18", func := "footlocker/footlockerlaw02.MemApart", spec := "memApart", apart := false, narrowed := true }
def MemApartUptoSaid : Prop := memApartUptoRow.holds Try.pinned (OpenSpec.upto memApartSpec)

/-- 'footlockerlaw02.MemPlays', WHERE WHAT IT READS IS OF BULK AT MOST 1048576: true; the input reads as it did. -/
def memPlaysUptoRow : OpenClaim := { program := "ytnpjfdiapoghnaa", sum := "1ed37d5c60390538ed8a56134e070fe67abf0ab78afedf4a45d8102005575b18", func := "footlocker/footlockerlaw02.MemPlays", spec := "memPlays", apart := false, narrowed := true }
def MemPlaysUptoSaid : Prop := memPlaysUptoRow.holds Try.pinned (OpenSpec.upto memPlaysSpec)

/-- 'footlockerlaw02.MemNone', WHERE WHAT IT READS IS OF BULK AT MOST 1048576: true; the input reads as it did. -/
def memNoneUptoRow : OpenClaim := { program := "ytnpjfdiapoghnaa", sum := "1ed37d5c60390538ed8a56134e070fe67abf0ab78afedf4a45d8102005575b18", func := "footlocker/footlockerlaw02.MemNone", spec := "memNone", apart := false, narrowed := true }
def MemNoneUptoSaid : Prop := memNoneUptoRow.holds Try.pinned (OpenSpec.upto memNoneSpec)

/-- 'footlockerlaw05.PinMany', WHERE WHAT IT READS IS OF BULK AT MOST 1048576: true; the input reads as it did. -/
def pinManyUptoRow : OpenClaim := { program := "ytnpjfdiapoghnaa", sum := "1ed37d5c60390538ed8a56134e070fe67abf0ab78afedf4a45d8102005575b18", func := "footlocker/footlockerlaw05.PinMany", spec := "pinMany", apart := false, narrowed := true }
def PinManyUptoSaid : Prop := pinManyUptoRow.holds Try.pinned (OpenSpec.upto pinManySpec)

/-- 'footlockerlaw05.PinRaces', WHERE WHAT IT READS IS OF BULK AT MOST 1048576: true; the input reads as it did. -/
def pinRacesUptoRow : OpenClaim := { program := "ytnpjfdiapoghnaa", sum := "1ed37d5c60390538ed8a56134e070fe67abf0ab78afedf4a45d8102005575b18", func := "footlocker/footlockerlaw05.PinRaces", spec := "pinRaces", apart := false, narrowed := true }
def PinRacesUptoSaid : Prop := pinRacesUptoRow.holds Try.pinned (OpenSpec.upto pinRacesSpec)

/-- 'footlockerlaw13.EpochGoes', WHERE WHAT IT READS IS OF BULK AT MOST 1048576: true; the input reads as it did. -/
def epochGoesUptoRow : OpenClaim := { program := "ytnpjfdiapoghnaa", sum := "1ed37d5c60390538ed8a56134e070fe67abf0ab78afedf4a45d8102005575b18", func := "footlocker/footlockerlaw13.EpochGoes", spec := "epochGoes", apart := false, narrowed := true }
def EpochGoesUptoSaid : Prop := epochGoesUptoRow.holds Try.pinned (OpenSpec.upto epochGoesSpec)

/-- 'footlockerlaw05.PinSteps', WHERE WHAT IT READS IS OF BULK AT MOST 1048576: true; the input reads as it did. -/
def pinStepsUptoRow : OpenClaim := { program := "ytnpjfdiapoghnaa", sum := "1ed37d5c60390538ed8a56134e070fe67abf0ab78afedf4a45d8102005575b18", func := "footlocker/footlockerlaw05.PinSteps", spec := "pinSteps", apart := false, narrowed := true }
def PinStepsUptoSaid : Prop := pinStepsUptoRow.holds Try.pinned (OpenSpec.upto pinStepsSpec)

/-- 'footlockerlaw13.EpochMany', WHERE WHAT IT READS IS OF BULK AT MOST 1048576: true; the input reads as it did. -/
def epochManyUptoRow : OpenClaim := { program := "ytnpjfdiapoghnaa", sum := "1ed37d5c60390538ed8a56134e070fe67abf0ab78afedf4a45d8102005575b18", func := "footlocker/footlockerlaw13.EpochMany", spec := "epochMany", apart := false, narrowed := true }
def EpochManyUptoSaid : Prop := epochManyUptoRow.holds Try.pinned (OpenSpec.upto epochManySpec)

/-- 'footlockerlaw13.EpochPinned', WHERE WHAT IT READS IS OF BULK AT MOST 1048576: true; the input reads as it did. -/
def epochPinnedUptoRow : OpenClaim := { program := "ytnpjfdiapoghnaa", sum := "1ed37d5c60390538ed8a56134e070fe67abf0ab78afedf4a45d8102005575b18", func := "footlocker/footlockerlaw13.EpochPinned", spec := "epochPinned", apart := false, narrowed := true }
def EpochPinnedUptoSaid : Prop := epochPinnedUptoRow.holds Try.pinned (OpenSpec.upto epochPinnedSpec)

/-- 'footlockerlaw13.EpochSteps', WHERE WHAT IT READS IS OF BULK AT MOST 1048576: true; the input reads as it did. -/
def epochStepsUptoRow : OpenClaim := { program := "ytnpjfdiapoghnaa", sum := "1ed37d5c60390538ed8a56134e070fe67abf0ab78afedf4a45d8102005575b18", func := "footlocker/footlockerlaw13.EpochSteps", spec := "epochSteps", apart := false, narrowed := true }
def EpochStepsUptoSaid : Prop := epochStepsUptoRow.holds Try.pinned (OpenSpec.upto epochStepsSpec)

end Rows
end Go.Proofs.Ytnpjfdiapoghnaa
