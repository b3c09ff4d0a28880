import Derived.Test.YtahbooeioigbgaaDoorRows
import Derived.JoinedOf
import Derived.KernelRfl
namespace Go.Proofs.YtahbooeioigbgaaDoor.Head
theorem words_split (p r : List Char) : wordsSigns (p ++ Char.ofNat 32 :: r) = wordsSigns p ++ wordsSigns r := by
  induction p with
  | nil => rfl
  | cons c p ih =>
    by_cases h : c = Char.ofNat 32
    · subst h
      show [] :: wordsSigns (p ++ Char.ofNat 32 :: r) = ([] :: wordsSigns p) ++ wordsSigns r
      rw [ih]; rfl
    · have e : ∀ l, wordsSigns (c :: l) = match wordsSigns l with | w :: ws => (c :: w) :: ws | [] => [[c]] := fun l => by
        rw [wordsSigns] <;> first | rfl | exact h
      rw [List.cons_append, e, e, ih]
      have : wordsSigns p ≠ [] := by
        cases p with
        | nil => simp [wordsSigns]
        | cons d q =>
          by_cases h2 : d = Char.ofNat 32
          · subst h2; simp [wordsSigns]
          · rw [wordsSigns]
            · split <;> simp
            · exact h2
      cases hw : wordsSigns p with
      | nil => exact absurd hw this
      | cons w ws => rfl
def cutW : List Char := [99, 117, 116].map Char.ofNat
theorem make_of (P : Program) (W : List (List Char)) (h : behindMainWord (wordsSigns P.initOrder.toList) = cutW :: W) : P.make = some .cut := by
  unfold Program.make
  rw [h]
  kernel_rfl
theorem lifts_of (P : Program) (W : List (List Char)) (h : behindMainWord (wordsSigns P.initOrder.toList) = cutW :: W) : P.headLifts = [] := by
  unfold Program.headLifts
  rw [h]
  kernel_rfl
theorem final_of (P : Program) (W : List (List Char)) (h : behindMainWord (wordsSigns P.initOrder.toList) = cutW :: W) : P.liftsFinal = false := by
  unfold Program.liftsFinal
  rw [lifts_of P W h, h]
  kernel_rfl
theorem enter_of (P : Program) (W : List (List Char)) (h : behindMainWord (wordsSigns P.initOrder.toList) = cutW :: W) (h1 : P.laysLater = false) (h2 : P.bearsReflect = false) (h3 : P.doorFits [] = true) : P.mayEnter = true := by
  unfold Program.mayEnter
  rw [h]
  have e : stripLifts liftWords (cutW :: W) = ([], cutW :: W) := by kernel_rfl
  simp only [e, h1, h2, h3]
  show ((cutW == "gc".toList || cutW == "spec".toList) && (W.isEmpty || W.head? == some "stop".toList) || cutW == "carried".toList && List.take 2 W == ["gc".toList, "cut".toList] && !false && !false || (cutW :: W).head? == some "cut".toList && (([] : List String).contains "finals" || !false) && (([] : List String).contains "reflectrows" || !false) && (([] : List String).contains "reflectrows" || !([] : List String).contains "leanrows") && true) = true
  kernel_rfl
def headA : List Char := [104, 97, 114, 110, 101, 115, 115, 32, 53, 57, 49, 98, 53, 98, 48, 49, 53, 97, 101, 97, 49, 49, 49, 98, 57, 54, 97, 53, 97, 56, 101, 101, 51, 53, 97, 52, 56, 53, 52, 51, 50, 101, 57, 100, 101, 52, 102, 56, 53, 98, 51, 57, 98, 50, 99, 56, 97, 57, 52, 99, 99, 54, 101, 52, 55, 101, 48, 57, 98, 100, 48, 54, 32, 99, 117, 116].map Char.ofNat
def headB : List Char := [97, 116, 32, 108, 111, 111, 112, 46, 101, 120, 97, 109, 112, 108, 101, 47, 115, 99, 114, 117, 116, 105, 110, 101, 101, 114, 47, 108, 97, 119, 115, 46, 70, 110, 69, 120, 97, 99, 116, 80, 114, 111, 111, 102, 65, 108, 108, 32, 108, 111, 111, 112, 46, 101, 120, 97, 109, 112, 108, 101, 47, 115, 99, 114, 117, 116, 105, 110, 101, 101, 114, 47, 108, 97, 119, 115, 46, 70, 110, 69, 120, 97, 99, 116, 80, 97, 114, 116, 79, 107, 32, 108, 111, 111, 112, 46, 101, 120, 97, 109, 112, 108, 101, 47, 115, 99, 114, 117, 116, 105, 110, 101, 101, 114, 47, 108, 97, 119, 115, 46, 70, 110, 69, 120, 97, 99, 116, 80, 97, 114, 116, 115, 70, 105, 116, 32, 108, 111, 111, 112, 46, 101, 120, 97, 109, 112, 108, 101, 47, 115, 99, 114, 117, 116, 105, 110, 101, 101, 114, 47, 108, 97, 119, 115, 46, 70, 110, 80, 114, 111, 111, 102, 65, 108, 108, 32, 108, 111, 111, 112, 46, 101, 120, 97, 109, 112, 108, 101, 47, 115, 99, 114, 117, 116, 105, 110, 101, 101, 114, 47, 108, 97, 119, 115, 46, 70, 110, 69, 120, 97, 99, 116, 80, 114, 111, 111, 102, 79, 107, 32, 108, 111, 111, 112, 46, 101, 120, 97, 109, 112, 108, 101, 47, 115, 99, 114, 117, 116, 105, 110, 101, 101, 114, 47, 108, 97, 119, 115, 46, 70, 110, 80, 114, 111, 111, 102, 67, 117, 116, 32, 108, 111, 111, 112, 46, 101, 120, 97, 109, 112, 108, 101, 47, 115, 99, 114, 117, 116, 105, 110, 101, 101, 114, 47, 108, 97, 119, 115, 46, 70, 110, 80, 97, 114, 116, 70, 111, 114, 109, 32, 108, 111, 111, 112, 46, 101, 120, 97, 109, 112, 108, 101, 47, 115, 99, 114, 117, 116, 105, 110, 101, 101, 114, 47, 108, 97, 119, 115, 46, 70, 110, 70, 105, 116, 32, 108, 111, 111, 112, 46, 101, 120, 97, 109, 112, 108, 101, 47, 115, 99, 114, 117, 116, 105, 110, 101, 101, 114, 47, 108, 97, 119, 115, 46, 70, 110, 80, 114, 111, 111, 102, 77, 97, 107, 101, 32, 108, 111, 111, 112, 46, 101, 120, 97, 109, 112, 108, 101, 47, 115, 99, 114, 117, 116, 105, 110, 101, 101, 114, 47, 108, 97, 119, 115, 46, 70, 110, 80, 114, 111, 111, 102, 79, 107, 32, 108, 111, 111, 112, 46, 101, 120, 97, 109, 112, 108, 101, 47, 115, 99, 114, 117, 116, 105, 110, 101, 101, 114, 47, 108, 97, 119, 115, 46, 70, 110, 80, 114, 111, 111, 102, 79, 110, 101].map Char.ofNat
theorem head_is : Tryd.prog.initOrder = String.ofList (headA ++ Char.ofNat 32 :: headB) := by kernel_rfl
theorem head_three : wordsSigns headA = [[104, 97, 114, 110, 101, 115, 115].map Char.ofNat, [53, 57, 49, 98, 53, 98, 48, 49, 53, 97, 101, 97, 49, 49, 49, 98, 57, 54, 97, 53, 97, 56, 101, 101, 51, 53, 97, 52, 56, 53, 52, 51, 50, 101, 57, 100, 101, 52, 102, 56, 53, 98, 51, 57, 98, 50, 99, 56, 97, 57, 52, 99, 99, 54, 101, 52, 55, 101, 48, 57, 98, 100, 48, 54].map Char.ofNat, [99, 117, 116].map Char.ofNat] := by decide +kernel
theorem head_words : wordsSigns Tryd.prog.initOrder.toList = [[104, 97, 114, 110, 101, 115, 115].map Char.ofNat, [53, 57, 49, 98, 53, 98, 48, 49, 53, 97, 101, 97, 49, 49, 49, 98, 57, 54, 97, 53, 97, 56, 101, 101, 51, 53, 97, 52, 56, 53, 52, 51, 50, 101, 57, 100, 101, 52, 102, 56, 53, 98, 51, 57, 98, 50, 99, 56, 97, 57, 52, 99, 99, 54, 101, 52, 55, 101, 48, 57, 98, 100, 48, 54].map Char.ofNat, [99, 117, 116].map Char.ofNat] ++ wordsSigns headB := by rw [head_is, String.toList_ofList, words_split, head_three]
theorem behind_of (W : List (List Char)) : behindMainWord ([[104, 97, 114, 110, 101, 115, 115].map Char.ofNat, [53, 57, 49, 98, 53, 98, 48, 49, 53, 97, 101, 97, 49, 49, 49, 98, 57, 54, 97, 53, 97, 56, 101, 101, 51, 53, 97, 52, 56, 53, 52, 51, 50, 101, 57, 100, 101, 52, 102, 56, 53, 98, 51, 57, 98, 50, 99, 56, 97, 57, 52, 99, 99, 54, 101, 52, 55, 101, 48, 57, 98, 100, 48, 54].map Char.ofNat, [99, 117, 116].map Char.ofNat] ++ W) = cutW :: W := by kernel_rfl
theorem head_behind : behindMainWord (wordsSigns Tryd.prog.initOrder.toList) = cutW :: wordsSigns headB := by rw [head_words, behind_of]
theorem head_make : Tryd.prog.make = some .cut := make_of _ _ head_behind
theorem head_lifts : Tryd.prog.liftsFinal = false := final_of _ _ head_behind
theorem head_enter : Tryd.prog.mayEnter = true := enter_of _ _ head_behind (by kernel_rfl) (by kernel_rfl) (by kernel_rfl)
end Go.Proofs.YtahbooeioigbgaaDoor.Head
