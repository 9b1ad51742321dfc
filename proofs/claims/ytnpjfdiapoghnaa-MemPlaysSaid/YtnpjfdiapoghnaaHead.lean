/- Closed facts on the head of the loaded program: which words stand in it. The text's signs are laid out as numbers, so that the kernel need not read the text. -/
import Derived.Test.YtnpjfdiapoghnaaRows
import Derived.JoinedOf
import Derived.KernelRfl
namespace Go.Proofs.Ytnpjfdiapoghnaa
open Go
def headSigns : List Char := ([
  104, 97, 114, 110, 101, 115, 115, 32, 54, 56, 52, 102, 54, 53, 97, 56, 48, 101, 52, 97, 97, 48, 48, 53, 57, 54, 53, 49, 51, 101, 49, 52, 53, 51, 53, 97, 102, 56, 102, 100, 53, 99, 
  102, 54, 53, 100, 102, 54, 102, 102, 52, 48, 56, 102, 99, 50, 48, 51, 55, 54, 56, 54, 53, 98, 97, 102, 53, 101, 51, 98, 51, 48, 32, 99, 117, 116, 32, 97, 116, 32, 102, 111, 111, 
  116, 108, 111, 99, 107, 101, 114, 47, 102, 111, 111, 116, 108, 111, 99, 107, 101, 114, 108, 97, 119, 48, 49, 46, 87, 111, 114, 100, 72, 97, 110, 100, 108, 101, 115, 32, 102, 111, 
  111, 116, 108, 111, 99, 107, 101, 114, 47, 102, 111, 111, 116, 108, 111, 99, 107, 101, 114, 108, 97, 119, 48, 49, 46, 87, 111, 114, 100, 83, 108, 111, 116, 115, 32, 102, 111, 111, 
  116, 108, 111, 99, 107, 101, 114, 47, 102, 111, 111, 116, 108, 111, 99, 107, 101, 114, 108, 97, 119, 48, 49, 46, 87, 111, 114, 100, 80, 97, 114, 116, 115, 32, 102, 111, 111, 116, 
  108, 111, 99, 107, 101, 114, 47, 102, 111, 111, 116, 108, 111, 99, 107, 101, 114, 108, 97, 119, 48, 49, 46, 87, 111, 114, 100, 76, 105, 118, 101, 115, 32, 102, 111, 111, 116, 108, 
  111, 99, 107, 101, 114, 47, 102, 111, 111, 116, 108, 111, 99, 107, 101, 114, 108, 97, 119, 48, 49, 46, 87, 111, 114, 100, 84, 111, 112, 115, 32, 102, 111, 111, 116, 108, 111, 99, 
  107, 101, 114, 47, 102, 111, 111, 116, 108, 111, 99, 107, 101, 114, 108, 97, 119, 48, 49, 46, 87, 111, 114, 100, 67, 104, 117, 110, 107, 115, 32, 102, 111, 111, 116, 108, 111, 99, 
  107, 101, 114, 47, 102, 111, 111, 116, 108, 111, 99, 107, 101, 114, 108, 97, 119, 48, 49, 46, 87, 111, 114, 100, 65, 112, 97, 114, 116, 32, 102, 111, 111, 116, 108, 111, 99, 107, 
  101, 114, 47, 102, 111, 111, 116, 108, 111, 99, 107, 101, 114, 108, 97, 119, 48, 49, 46, 87, 111, 114, 100, 72, 101, 97, 100, 115, 32, 102, 111, 111, 116, 108, 111, 99, 107, 101, 
  114, 47, 102, 111, 111, 116, 108, 111, 99, 107, 101, 114, 108, 97, 119, 48, 49, 46, 87, 111, 114, 100, 67, 101, 108, 108, 115, 32, 102, 111, 111, 116, 108, 111, 99, 107, 101, 114, 
  47, 102, 111, 111, 116, 108, 111, 99, 107, 101, 114, 108, 97, 119, 48, 50, 46, 77, 101, 109, 65, 100, 100, 115, 32, 102, 111, 111, 116, 108, 111, 99, 107, 101, 114, 47, 102, 111, 
  111, 116, 108, 111, 99, 107, 101, 114, 108, 97, 119, 48, 50, 46, 77, 101, 109, 79, 110, 101, 32, 102, 111, 111, 116, 108, 111, 99, 107, 101, 114, 47, 102, 111, 111, 116, 108, 111, 
  99, 107, 101, 114, 108, 97, 119, 48, 50, 46, 77, 101, 109, 65, 112, 97, 114, 116, 32, 102, 111, 111, 116, 108, 111, 99, 107, 101, 114, 47, 102, 111, 111, 116, 108, 111, 99, 107, 
  101, 114, 108, 97, 119, 48, 50, 46, 77, 101, 109, 80, 108, 97, 121, 115, 32, 102, 111, 111, 116, 108, 111, 99, 107, 101, 114, 47, 102, 111, 111, 116, 108, 111, 99, 107, 101, 114, 
  108, 97, 119, 48, 50, 46, 77, 101, 109, 78, 111, 110, 101, 32, 102, 111, 111, 116, 108, 111, 99, 107, 101, 114, 47, 102, 111, 111, 116, 108, 111, 99, 107, 101, 114, 108, 97, 119, 
  48, 53, 46, 80, 105, 110, 77, 97, 110, 121, 32, 102, 111, 111, 116, 108, 111, 99, 107, 101, 114, 47, 102, 111, 111, 116, 108, 111, 99, 107, 101, 114, 108, 97, 119, 48, 53, 46, 80, 
  105, 110, 82, 97, 99, 101, 115, 32, 102, 111, 111, 116, 108, 111, 99, 107, 101, 114, 47, 102, 111, 111, 116, 108, 111, 99, 107, 101, 114, 108, 97, 119, 49, 51, 46, 69, 112, 111, 99, 
  104, 71, 111, 101, 115, 32, 102, 111, 111, 116, 108, 111, 99, 107, 101, 114, 47, 102, 111, 111, 116, 108, 111, 99, 107, 101, 114, 108, 97, 119, 48, 53, 46, 80, 105, 110, 83, 116, 
  101, 112, 115, 32, 102, 111, 111, 116, 108, 111, 99, 107, 101, 114, 47, 102, 111, 111, 116, 108, 111, 99, 107, 101, 114, 108, 97, 119, 49, 51, 46, 69, 112, 111, 99, 104, 77, 97, 
  110, 121, 32, 102, 111, 111, 116, 108, 111, 99, 107, 101, 114, 47, 102, 111, 111, 116, 108, 111, 99, 107, 101, 114, 108, 97, 119, 49, 51, 46, 69, 112, 111, 99, 104, 80, 105, 110, 
  110, 101, 100, 32, 102, 111, 111, 116, 108, 111, 99, 107, 101, 114, 47, 102, 111, 111, 116, 108, 111, 99, 107, 101, 114, 108, 97, 119, 49, 51, 46, 69, 112, 111, 99, 104, 83, 116, 
  101, 112, 115] : List Nat).map Char.ofNat
theorem head_is : Try.prog.initOrder = "harness 684f65a80e4aa00596513e14535af8fd5cf65df6ff408fc20376865baf5e3b30 cut at footlocker/footlockerlaw01.WordHandles footlocker/footlockerlaw01.WordSlots footlocker/footlockerlaw01.WordParts footlocker/footlockerlaw01.WordLives footlocker/footlockerlaw01.WordTops footlocker/footlockerlaw01.WordChunks footlocker/footlockerlaw01.WordApart footlocker/footlockerlaw01.WordHeads footlocker/footlockerlaw01.WordCells footlocker/footlockerlaw02.MemAdds footlocker/footlockerlaw02.MemOne footlocker/footlockerlaw02.MemApart footlocker/footlockerlaw02.MemPlays footlocker/footlockerlaw02.MemNone footlocker/footlockerlaw05.PinMany footlocker/footlockerlaw05.PinRaces footlocker/footlockerlaw13.EpochGoes footlocker/footlockerlaw05.PinSteps footlocker/footlockerlaw13.EpochMany footlocker/footlockerlaw13.EpochPinned footlocker/footlockerlaw13.EpochSteps" := by kernel_rfl
set_option maxRecDepth 100000 in
theorem head_signs : Try.prog.initOrder.toList = headSigns := by rw [head_is]; exact String.toList_ofList
def headWords : List (List Char) := ([
  [99, 117, 116],
  [97, 116],
  [102, 111, 111, 116, 108, 111, 99, 107, 101, 114, 47, 102, 111, 111, 116, 108, 111, 99, 107, 101, 114, 108, 97, 119, 48, 49, 46, 87, 111, 114, 100, 72, 97, 110, 100, 108, 101, 115],
  [102, 111, 111, 116, 108, 111, 99, 107, 101, 114, 47, 102, 111, 111, 116, 108, 111, 99, 107, 101, 114, 108, 97, 119, 48, 49, 46, 87, 111, 114, 100, 83, 108, 111, 116, 115],
  [102, 111, 111, 116, 108, 111, 99, 107, 101, 114, 47, 102, 111, 111, 116, 108, 111, 99, 107, 101, 114, 108, 97, 119, 48, 49, 46, 87, 111, 114, 100, 80, 97, 114, 116, 115],
  [102, 111, 111, 116, 108, 111, 99, 107, 101, 114, 47, 102, 111, 111, 116, 108, 111, 99, 107, 101, 114, 108, 97, 119, 48, 49, 46, 87, 111, 114, 100, 76, 105, 118, 101, 115],
  [102, 111, 111, 116, 108, 111, 99, 107, 101, 114, 47, 102, 111, 111, 116, 108, 111, 99, 107, 101, 114, 108, 97, 119, 48, 49, 46, 87, 111, 114, 100, 84, 111, 112, 115],
  [102, 111, 111, 116, 108, 111, 99, 107, 101, 114, 47, 102, 111, 111, 116, 108, 111, 99, 107, 101, 114, 108, 97, 119, 48, 49, 46, 87, 111, 114, 100, 67, 104, 117, 110, 107, 115],
  [102, 111, 111, 116, 108, 111, 99, 107, 101, 114, 47, 102, 111, 111, 116, 108, 111, 99, 107, 101, 114, 108, 97, 119, 48, 49, 46, 87, 111, 114, 100, 65, 112, 97, 114, 116],
  [102, 111, 111, 116, 108, 111, 99, 107, 101, 114, 47, 102, 111, 111, 116, 108, 111, 99, 107, 101, 114, 108, 97, 119, 48, 49, 46, 87, 111, 114, 100, 72, 101, 97, 100, 115],
  [102, 111, 111, 116, 108, 111, 99, 107, 101, 114, 47, 102, 111, 111, 116, 108, 111, 99, 107, 101, 114, 108, 97, 119, 48, 49, 46, 87, 111, 114, 100, 67, 101, 108, 108, 115],
  [102, 111, 111, 116, 108, 111, 99, 107, 101, 114, 47, 102, 111, 111, 116, 108, 111, 99, 107, 101, 114, 108, 97, 119, 48, 50, 46, 77, 101, 109, 65, 100, 100, 115],
  [102, 111, 111, 116, 108, 111, 99, 107, 101, 114, 47, 102, 111, 111, 116, 108, 111, 99, 107, 101, 114, 108, 97, 119, 48, 50, 46, 77, 101, 109, 79, 110, 101],
  [102, 111, 111, 116, 108, 111, 99, 107, 101, 114, 47, 102, 111, 111, 116, 108, 111, 99, 107, 101, 114, 108, 97, 119, 48, 50, 46, 77, 101, 109, 65, 112, 97, 114, 116],
  [102, 111, 111, 116, 108, 111, 99, 107, 101, 114, 47, 102, 111, 111, 116, 108, 111, 99, 107, 101, 114, 108, 97, 119, 48, 50, 46, 77, 101, 109, 80, 108, 97, 121, 115],
  [102, 111, 111, 116, 108, 111, 99, 107, 101, 114, 47, 102, 111, 111, 116, 108, 111, 99, 107, 101, 114, 108, 97, 119, 48, 50, 46, 77, 101, 109, 78, 111, 110, 101],
  [102, 111, 111, 116, 108, 111, 99, 107, 101, 114, 47, 102, 111, 111, 116, 108, 111, 99, 107, 101, 114, 108, 97, 119, 48, 53, 46, 80, 105, 110, 77, 97, 110, 121],
  [102, 111, 111, 116, 108, 111, 99, 107, 101, 114, 47, 102, 111, 111, 116, 108, 111, 99, 107, 101, 114, 108, 97, 119, 48, 53, 46, 80, 105, 110, 82, 97, 99, 101, 115],
  [102, 111, 111, 116, 108, 111, 99, 107, 101, 114, 47, 102, 111, 111, 116, 108, 111, 99, 107, 101, 114, 108, 97, 119, 49, 51, 46, 69, 112, 111, 99, 104, 71, 111, 101, 115],
  [102, 111, 111, 116, 108, 111, 99, 107, 101, 114, 47, 102, 111, 111, 116, 108, 111, 99, 107, 101, 114, 108, 97, 119, 48, 53, 46, 80, 105, 110, 83, 116, 101, 112, 115],
  [102, 111, 111, 116, 108, 111, 99, 107, 101, 114, 47, 102, 111, 111, 116, 108, 111, 99, 107, 101, 114, 108, 97, 119, 49, 51, 46, 69, 112, 111, 99, 104, 77, 97, 110, 121],
  [102, 111, 111, 116, 108, 111, 99, 107, 101, 114, 47, 102, 111, 111, 116, 108, 111, 99, 107, 101, 114, 108, 97, 119, 49, 51, 46, 69, 112, 111, 99, 104, 80, 105, 110, 110, 101, 100],
  [102, 111, 111, 116, 108, 111, 99, 107, 101, 114, 47, 102, 111, 111, 116, 108, 111, 99, 107, 101, 114, 108, 97, 119, 49, 51, 46, 69, 112, 111, 99, 104, 83, 116, 101, 112, 115]] : List (List Nat)).map fun l => l.map Char.ofNat
theorem head_words : behindMainWord (wordsSigns Try.prog.initOrder.toList) = headWords := by
  rw [head_signs]
  kernel_rfl
theorem p_headLifts : Try.prog.headLifts = [] := by
  unfold Program.headLifts
  rw [head_words]
  kernel_rfl
theorem p_liftsFinal : Try.checked.prog.liftsFinal = false := by
  show Try.prog.liftsFinal = false
  unfold Program.liftsFinal
  rw [head_words, p_headLifts]
  kernel_rfl
def makeOf (l : List (List Char)) : Option Make := match l with
  | c :: rest => if c == "gc".toList || c == "spec".toList then some .whole else if c == "cut".toList || (c == "finals".toList && rest.head? == some "cut".toList) then some .cut else if c == "carried".toList then some .carried else if ([] : List String).isEmpty then none else some (.lifted [])
  | [] => none
theorem make_of {P : Program} {l : List (List Char)} (h1 : P.headLifts = []) (h2 : behindMainWord (wordsSigns P.initOrder.toList) = l) : P.make = makeOf l := by
  unfold Program.make
  rw [h1, h2]
  rfl
theorem make1 : makeOf headWords = some .cut := by kernel_rfl
theorem p_make : Try.checked.prog.make = some .cut := (make_of p_headLifts head_words).trans make1
def mayOf (l : List (List Char)) (later reflect : Bool) (door : List String → Bool) : Bool := match l with
  | c :: rest =>
    ((c == "gc".toList || c == "spec".toList) && (rest.isEmpty || rest.head? == some "stop".toList)) ||
    (c == "carried".toList && rest.take 2 == ["gc".toList, "cut".toList] && !later && !reflect) ||
    ((stripLifts liftWords (c :: rest)).2.head? == some "cut".toList &&
      ((stripLifts liftWords (c :: rest)).1.contains "finals" || !later) && ((stripLifts liftWords (c :: rest)).1.contains "reflectrows" || !reflect) &&
      ((stripLifts liftWords (c :: rest)).1.contains "reflectrows" || !(stripLifts liftWords (c :: rest)).1.contains "leanrows") &&
      door (stripLifts liftWords (c :: rest)).1)
  | [] => false
theorem may_of {P : Program} {l : List (List Char)} (h2 : behindMainWord (wordsSigns P.initOrder.toList) = l) : P.mayEnter = mayOf l P.laysLater P.bearsReflect P.doorFits := by
  unfold Program.mayEnter
  rw [h2]
  rfl
theorem may_later : Try.prog.laysLater = false := by kernel_rfl
theorem may_reflect : Try.prog.bearsReflect = false := by kernel_rfl
theorem may_door : Try.prog.doorFits [] = true := by kernel_rfl
theorem may_gen (door : List String → Bool) (h : door [] = true) : mayOf headWords false false door = true := by
  have e : mayOf headWords false false door = door [] := by kernel_rfl
  rw [e, h]
theorem p_mayEnter : Try.checked.prog.mayEnter = true := by
  refine (may_of head_words).trans ?_
  rw [may_later, may_reflect]
  exact may_gen _ may_door
theorem and2 {a b : Bool} (h : a = true) (k : b = true) : (a && b) = true := by rw [h, k]; rfl
end Go.Proofs.Ytnpjfdiapoghnaa
