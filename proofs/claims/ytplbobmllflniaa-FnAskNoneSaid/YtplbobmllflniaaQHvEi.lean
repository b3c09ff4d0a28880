import Derived.Test.YtplbobmllflniaaEi5
import Derived.Test.YtplbobmllflniaaEi6
import Derived.Test.YtplbobmllflniaaQElEi
import Derived.Test.YtplbobmllflniaaQRdEi
import Derived.Test.YtplbobmllflniaaQShareEi
import Derived.Test.YtplbobmllflniaaQThroughEi
set_option linter.unusedVariables false
set_option linter.unusedSimpArgs false
namespace Go.Proofs.Ytplbobmllflniaa.Q
open Go.RowKit Go.Proofs.Ytplbobmllflniaa.Ei Go.Proofs.YtplbobmllflniaaW.PrintWords Go.Proofs.YtplbobmllflniaaW.PrintLast Go.Proofs.YtplbobmllflniaaW.PrintMore
def hv (x : Int) (l : List Int) : Int := l.foldr (fun c acc => (acc * x + c) % 31) 0
def pv (x : Int) (l : List Int) : Int := l.foldr (fun c acc => acc * x + c) 0
theorem hv_cons (x c : Int) (l : List Int) : hv x (c :: l) = (hv x l * x + c) % 31 := rfl
theorem pv_cons (x c : Int) (l : List Int) : pv x (c :: l) = pv x l * x + c := rfl
theorem hv_pv (x : Int) (l : List Int) : hv x l = pv x l % 31 := by
  induction l with
  | nil => rfl
  | cons c l ih => rw [hv_cons, pv_cons, ih, emod_mul]; omega
theorem hv_bd (x : Int) (l : List Int) : 0 ≤ hv x l ∧ hv x l ≤ 30 := by rw [hv_pv]; omega
theorem hStep_v (x acc c : Int) (hx : 0 ≤ x ∧ x ≤ 30) (ha : 0 ≤ acc ∧ acc ≤ 30) (hc : 0 ≤ c ∧ c ≤ 30) : hStep x acc c = (acc * x + c) % 31 := by
  unfold hStep
  rw [elTimes_f _ _ ha hx, Option.bind_some, elPlus_f _ _ (by omega) hc]
  show ((acc * x) % 31 + c) % 31 = _
  omega
theorem bwFold_hv (x : Int) (hx : 0 ≤ x ∧ x ≤ 30) (l : List Int) (hl : l.all fOk = true) (k : Nat) (hk : k ≤ l.length) : bwFold x (bwUpto (bwAt l) k) = hv x (l.drop (l.length - k)) := by
  induction k with
  | zero => rw [Nat.sub_zero, List.drop_length]; rfl
  | succ k ih =>
    have hi : l.length - (k + 1) < l.length := by omega
    rw [bwUpto_succ, bwFold_snoc, ih (by omega), List.drop_eq_getElem_cons hi, hv_cons, show l.length - (k + 1) + 1 = l.length - k by omega]
    have e : (bwAt l k).2 = l[l.length - (k + 1)] := by
      show rd l ((l.length : Int) - 1 - (k : Int)) = _
      rw [show (l.length : Int) - 1 - (k : Int) = ((l.length - (k + 1) : Nat) : Int) by omega, rd_nat l _ hi]
    rw [e, hStep_v x _ _ hx (hv_bd _ _) ((fOk_iff _).1 (all_get hl _ hi))]
theorem value_f (x : Int) (hx : 0 ≤ x ∧ x ≤ 30) (l : List Int) (hl : l.all fOk = true) (hn : l.length ≤ 1000000) : impl_value.f l x = some (hv x l) := by
  unfold impl_value.f
  rw [if_pos (by omega), bwFold_hv x hx l hl _ (Nat.le_refl _), Nat.sub_self]
  rfl
def hvL (x : Int) (F : List LF) : LF := F.foldr (fun c acc => LF.add (LF.mul acc x) c) LF.zero
theorem hv_map (y : LF) (x : Int) (F : List LF) : hv x (F.map (LF.ev y)) = LF.ev y (hvL x F) := by
  induction F with
  | nil => exact (LF.ev_zero y).symm
  | cons c F ih =>
    show (hv x (F.map (LF.ev y)) * x + LF.ev y c) % 31 = LF.ev y (LF.add (LF.mul (hvL x F) x) c)
    rw [ih, LF.ev_add, LF.ev_mul]
    omega
end Go.Proofs.Ytplbobmllflniaa.Q
