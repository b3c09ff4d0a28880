import Derived.Test.YtlgbblaidohljaaGreatDoorRows
import Derived.JoinedOf
import Derived.KernelRfl
namespace Go.Proofs.YtlgbblaidohljaaGreatDoor.Head
theorem words_split (p r : List Char) : wordsSigns (p ++ Char.ofNat 32 :: r) = wordsSigns p ++ wordsSigns r := by
  induction p with
  | nil => rfl
  | cons c p ih =>
    by_cases h : c = Char.ofNat 32
    · subst h
      show [] :: wordsSigns (p ++ Char.ofNat 32 :: r) = ([] :: wordsSigns p) ++ wordsSigns r
      rw [ih]; rfl
    · have e : ∀ l, wordsSigns (c :: l) = match wordsSigns l with | w :: ws => (c :: w) :: ws | [] => [[c]] := fun l => by
        rw [wordsSigns] <;> first | rfl | exact h
      rw [List.cons_append, e, e, ih]
      have : wordsSigns p ≠ [] := by
        cases p with
        | nil => simp [wordsSigns]
        | cons d q =>
          by_cases h2 : d = Char.ofNat 32
          · subst h2; simp [wordsSigns]
          · rw [wordsSigns]
            · split <;> simp
            · exact h2
      cases hw : wordsSigns p with
      | nil => exact absurd hw this
      | cons w ws => rfl
def cutW : List Char := [99, 117, 116].map Char.ofNat
theorem make_of (P : Program) (W : List (List Char)) (h : behindMainWord (wordsSigns P.initOrder.toList) = cutW :: W) : P.make = some .cut := by
  unfold Program.make
  rw [h]
  kernel_rfl
theorem lifts_of (P : Program) (W : List (List Char)) (h : behindMainWord (wordsSigns P.initOrder.toList) = cutW :: W) : P.headLifts = [] := by
  unfold Program.headLifts
  rw [h]
  kernel_rfl
theorem final_of (P : Program) (W : List (List Char)) (h : behindMainWord (wordsSigns P.initOrder.toList) = cutW :: W) : P.liftsFinal = false := by
  unfold Program.liftsFinal
  rw [lifts_of P W h, h]
  kernel_rfl
theorem enter_of (P : Program) (W : List (List Char)) (h : behindMainWord (wordsSigns P.initOrder.toList) = cutW :: W) (h1 : P.laysLater = false) (h2 : P.bearsReflect = false) (h3 : P.doorFits [] = true) : P.mayEnter = true := by
  unfold Program.mayEnter
  rw [h]
  have e : stripLifts liftWords (cutW :: W) = ([], cutW :: W) := by kernel_rfl
  simp only [e, h1, h2, h3]
  show ((cutW == "gc".toList || cutW == "spec".toList) && (W.isEmpty || W.head? == some "stop".toList) || cutW == "carried".toList && List.take 2 W == ["gc".toList, "cut".toList] && !false && !false || (cutW :: W).head? == some "cut".toList && (([] : List String).contains "finals" || !false) && (([] : List String).contains "reflectrows" || !false) && (([] : List String).contains "reflectrows" || !([] : List String).contains "leanrows") && true) = true
  kernel_rfl
def headA : List Char := [104, 97, 114, 110, 101, 115, 115, 32, 99, 56, 56, 56, 55, 99, 57, 50, 56, 50, 48, 53, 100, 102, 54, 49, 99, 100, 101, 57, 49, 54, 50, 53, 99, 57, 98, 101, 52, 49, 98, 57, 53, 51, 97, 51, 53, 50, 56, 100, 53, 101, 57, 102, 99, 100, 99, 100, 100, 49, 98, 55, 49, 48, 99, 101, 50, 102, 100, 55, 101, 57, 55, 51, 32, 99, 117, 116].map Char.ofNat
def headB : List Char := [97, 116, 32, 108, 111, 111, 112, 46, 101, 120, 97, 109, 112, 108, 101, 47, 115, 99, 114, 117, 116, 105, 110, 101, 101, 114, 47, 108, 97, 119, 115, 46, 70, 110, 69, 120, 97, 99, 116, 80, 97, 114, 116, 115, 84, 97, 107, 101, 32, 108, 111, 111, 112, 46, 101, 120, 97, 109, 112, 108, 101, 47, 115, 99, 114, 117, 116, 105, 110, 101, 101, 114, 47, 108, 97, 119, 115, 46, 70, 110, 65, 115, 107, 72, 105, 100, 101, 32, 108, 111, 111, 112, 46, 101, 120, 97, 109, 112, 108, 101, 47, 115, 99, 114, 117, 116, 105, 110, 101, 101, 114, 47, 108, 97, 119, 115, 46, 70, 110, 65, 115, 107, 84, 111, 108, 100, 32, 108, 111, 111, 112, 46, 101, 120, 97, 109, 112, 108, 101, 47, 115, 99, 114, 117, 116, 105, 110, 101, 101, 114, 47, 108, 97, 119, 115, 46, 70, 110, 67, 104, 97, 110, 99, 101, 65, 108, 108, 32, 108, 111, 111, 112, 46, 101, 120, 97, 109, 112, 108, 101, 47, 115, 99, 114, 117, 116, 105, 110, 101, 101, 114, 47, 108, 97, 119, 115, 46, 70, 110, 67, 104, 97, 110, 99, 101, 66, 111, 117, 110, 100, 32, 108, 111, 111, 112, 46, 101, 120, 97, 109, 112, 108, 101, 47, 115, 99, 114, 117, 116, 105, 110, 101, 101, 114, 47, 108, 97, 119, 115, 46, 70, 110, 67, 104, 97, 110, 99, 101, 83, 112, 108, 105, 116, 32, 108, 111, 111, 112, 46, 101, 120, 97, 109, 112, 108, 101, 47, 115, 99, 114, 117, 116, 105, 110, 101, 101, 114, 47, 108, 97, 119, 115, 46, 70, 110, 84, 97, 107, 101].map Char.ofNat
theorem head_is : Tryz.prog.initOrder = String.ofList (headA ++ Char.ofNat 32 :: headB) := by kernel_rfl
theorem head_three : wordsSigns headA = [[104, 97, 114, 110, 101, 115, 115].map Char.ofNat, [99, 56, 56, 56, 55, 99, 57, 50, 56, 50, 48, 53, 100, 102, 54, 49, 99, 100, 101, 57, 49, 54, 50, 53, 99, 57, 98, 101, 52, 49, 98, 57, 53, 51, 97, 51, 53, 50, 56, 100, 53, 101, 57, 102, 99, 100, 99, 100, 100, 49, 98, 55, 49, 48, 99, 101, 50, 102, 100, 55, 101, 57, 55, 51].map Char.ofNat, [99, 117, 116].map Char.ofNat] := by decide +kernel
theorem head_words : wordsSigns Tryz.prog.initOrder.toList = [[104, 97, 114, 110, 101, 115, 115].map Char.ofNat, [99, 56, 56, 56, 55, 99, 57, 50, 56, 50, 48, 53, 100, 102, 54, 49, 99, 100, 101, 57, 49, 54, 50, 53, 99, 57, 98, 101, 52, 49, 98, 57, 53, 51, 97, 51, 53, 50, 56, 100, 53, 101, 57, 102, 99, 100, 99, 100, 100, 49, 98, 55, 49, 48, 99, 101, 50, 102, 100, 55, 101, 57, 55, 51].map Char.ofNat, [99, 117, 116].map Char.ofNat] ++ wordsSigns headB := by rw [head_is, String.toList_ofList, words_split, head_three]
theorem behind_of (W : List (List Char)) : behindMainWord ([[104, 97, 114, 110, 101, 115, 115].map Char.ofNat, [99, 56, 56, 56, 55, 99, 57, 50, 56, 50, 48, 53, 100, 102, 54, 49, 99, 100, 101, 57, 49, 54, 50, 53, 99, 57, 98, 101, 52, 49, 98, 57, 53, 51, 97, 51, 53, 50, 56, 100, 53, 101, 57, 102, 99, 100, 99, 100, 100, 49, 98, 55, 49, 48, 99, 101, 50, 102, 100, 55, 101, 57, 55, 51].map Char.ofNat, [99, 117, 116].map Char.ofNat] ++ W) = cutW :: W := by kernel_rfl
theorem head_behind : behindMainWord (wordsSigns Tryz.prog.initOrder.toList) = cutW :: wordsSigns headB := by rw [head_words, behind_of]
theorem head_make : Tryz.prog.make = some .cut := make_of _ _ head_behind
theorem head_lifts : Tryz.prog.liftsFinal = false := final_of _ _ head_behind
theorem head_enter : Tryz.prog.mayEnter = true := enter_of _ _ head_behind (by kernel_rfl) (by kernel_rfl) (by kernel_rfl)
end Go.Proofs.YtlgbblaidohljaaGreatDoor.Head
