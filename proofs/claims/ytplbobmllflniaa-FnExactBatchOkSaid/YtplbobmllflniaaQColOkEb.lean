/- Plain lemmas about the Lean functions of the program's printed text; each theorem states its own conditions. -/
import Derived.Test.YtplbobmllflniaaEb1
import Derived.Test.YtplbobmllflniaaEb2
import Derived.Test.YtplbobmllflniaaEb3
import Derived.Test.YtplbobmllflniaaEb4
import Derived.Test.YtplbobmllflniaaQBaseEb
import Derived.Test.YtplbobmllflniaaQIntsEb
import Derived.Test.YtplbobmllflniaaQVecEb
set_option linter.unusedVariables false
set_option linter.unusedSimpArgs false
namespace Go.Proofs.Ytplbobmllflniaa.Q
open Go.RowKit Go.Proofs.Ytplbobmllflniaa.Eb Go.Proofs.YtplbobmllflniaaW.PrintWords Go.Proofs.YtplbobmllflniaaW.PrintLast Go.Proofs.YtplbobmllflniaaW.PrintMore
theorem l22Has_loop (l : List Int) (a : Int) (hl : l.length ≤ 1048576000) (d : Nat) : ∀ (k : Nat) (i : Nat), i + d = l.length → a ∉ l.take i → d < k → spec_l22Has.l0 k l a (i : Int) = some (l.contains a) := by
  induction d with
  | zero =>
    intro k i hi ht hk
    obtain ⟨k, rfl⟩ : ∃ j, k = j + 1 := ⟨k - 1, by omega⟩
    simp only [spec_l22Has.l0]
    rw [if_neg (by omega)]
    obtain rfl : i = l.length := by omega
    rw [List.take_length] at ht
    simp [ht]
  | succ d ih =>
    intro k i hi ht hk
    obtain ⟨k, rfl⟩ : ∃ j, k = j + 1 := ⟨k - 1, by omega⟩
    simp only [spec_l22Has.l0]
    have h1 : i < l.length := by omega
    rw [if_pos (by omega), if_pos (by omega), rd_nat l i h1, w64 (by omega) (by omega)]
    by_cases e : l[i] = a
    · rw [if_pos e]
      have : a ∈ l := by rw [← e]; exact List.getElem_mem h1
      simp [this]
    · rw [if_neg e]
      have := ih k (i + 1) (by omega) (by
        rw [List.take_succ_eq_append_getElem h1, List.mem_append]
        rintro (h | h)
        · exact ht h
        · simp at h; exact e h.symm) (by omega)
      simpa using this
theorem l22Has_f (k : Nat) (l : List Int) (a : Int) (hl : l.length ≤ 1048576000) (hk : l.length < k) : spec_l22Has.f k l a = some (l.contains a) :=
  l22Has_loop l a hl l.length k 0 (by omega) (by simp) hk

/-- a collector in order -/
def colOk (side kind : Int) (s i : List Int) : Bool := decide (1 ≤ side) && decide (side ≤ 2) && vecOk kind s && i.all iOk && decide i.Nodup && decide ((i.length : Int) ≤ 9)
theorem implColOk_f (side kind : Int) (s i : List Int) (hi : i.length ≤ 1048576000) (hw : allWf i = true) : impl_ColOk.f side kind s i = some (colOk side kind s i) := by
  unfold impl_ColOk.f colOk impl_TypeLen.f impl_idsOk.f
  rw [within_f, Option.bind_some]
  cases h : (decide (1 ≤ side) && decide (side ≤ 2))
  · rfl
  · rw [if_pos rfl, Option.bind_some, sized_f, Option.bind_some]
    cases h2 : vecOk kind s
    · rfl
    · rw [if_pos rfl, if_pos (by simp [hw, hi]), Option.bind_some]
      simp only [Bool.true_and, Option.some.injEq]
      cases i.all iOk <;> cases decide i.Nodup <;> simp
theorem nodup_take_succ {l : List Int} {i : Nat} (h : i < l.length) (ht : (l.take i).Nodup) (hn : l[i] ∉ l.take i) : (l.take (i + 1)).Nodup := by
  rw [List.take_succ_eq_append_getElem h, List.nodup_append]
  refine ⟨ht, by simp, ?_⟩
  intro a ha b hb
  simp only [List.mem_singleton] at hb
  subst hb
  exact fun e => hn (e ▸ ha)
theorem not_nodup {l : List Int} {i : Nat} (h : i < l.length) (hn : l[i] ∈ l.take i) : ¬ l.Nodup := by
  intro hd
  have := (List.take_sublist (i + 1) l).nodup hd
  rw [List.take_succ_eq_append_getElem h, List.nodup_append] at this
  exact this.2.2 _ hn _ (by simp) rfl
theorem idOk_f (a : Int) : spec_l6In.f a 1 99 = some (iOk a) := by rw [l6In_f]; rfl
theorem specColOk_loop (side kind : Int) (s l : List Int) (hs : s.length ≤ 1048576000) (hl : l.length ≤ 1048576000) (d : Nat) : ∀ (k : Nat) (i : Nat), i + d = l.length → (l.take i).all iOk = true → (l.take i).Nodup → d + l.length < k → d + s.length + 1 < k →
    spec_ColOk.l0 k (i : Int) side kind s l = some (colOk side kind s l) := by
  induction d with
  | zero =>
    intro k i hi ht hn hk hk2
    obtain ⟨k, rfl⟩ : ∃ j, k = j + 1 := ⟨k - 1, by omega⟩
    simp only [spec_ColOk.l0]
    rw [if_neg (by omega)]
    obtain rfl : i = l.length := by omega
    rw [List.take_length] at ht hn
    rw [l6In_f, Option.bind_some]
    unfold colOk
    rw [ht]
    cases h : (decide (1 ≤ side) && decide (side ≤ 2))
    · rfl
    · rw [if_pos rfl, l11Vec_f k kind s hs (by omega), Option.bind_some]
      cases h2 : vecOk kind s
      · rfl
      · rw [if_pos rfl]; simp [hn]
  | succ d ih =>
    intro k i hi ht hn hk hk2
    obtain ⟨k, rfl⟩ : ∃ j, k = j + 1 := ⟨k - 1, by omega⟩
    simp only [spec_ColOk.l0]
    have h1 : i < l.length := by omega
    rw [if_pos (by omega), if_pos (by omega), rd_nat l i h1, idOk_f, Option.bind_some]
    cases e : iOk l[i]
    · rw [if_neg (by simp)]
      have : l.all iOk = false := by
        cases h : l.all iOk
        · rfl
        · have := List.all_eq_true.1 h _ (List.getElem_mem h1); rw [e] at this; cases this
      simp [colOk, this]
    · rw [if_pos rfl, if_pos (by omega), Int.toNat_natCast, l22Has_f k _ _ (by rw [List.length_take]; omega) (by rw [List.length_take]; omega), Option.bind_some, w64 (by omega) (by omega)]
      by_cases hc : l[i] ∈ l.take i
      · rw [if_pos (by simpa using hc)]
        have := not_nodup h1 hc
        simp [colOk, this]
      · rw [if_neg (by simpa using hc)]
        have := ih k (i + 1) (by omega) (by rw [List.take_succ_eq_append_getElem h1, List.all_append, ht]; simp [e]) (nodup_take_succ h1 hn hc) (by omega) (by omega)
        simpa using this
theorem specColOk_f (k : Nat) (side kind : Int) (s l : List Int) (hs : s.length ≤ 1048576000) (hl : l.length ≤ 1048576000) (hk : 2 * l.length < k) (hk2 : l.length + s.length + 1 < k) : spec_ColOk.f k side kind s l = some (colOk side kind s l) := by
  unfold spec_ColOk.f
  have := specColOk_loop side kind s l hs hl l.length k 0 (by omega) (by simp) (by simp) (by omega) (by omega)
  simpa using this
theorem szIntS_f (l : List Int) (a : Int) (h0 : 0 ≤ a) (h : a ≤ 1048576) (hl : l.length ≤ maxLen) : laws_szIntS.f l a = some (if a - (l.length : Int) < 0 then -1 else a - (l.length : Int)) := by
  unfold laws_szIntS.f
  unfold maxLen at hl
  rw [w64 (by omega) (by omega)]
  split <;> rfl
theorem szCol_f (a b : Int) (s i : List Int) (m : Int) (h0 : 0 ≤ m) (h : m ≤ 1048576) (hs : s.length ≤ maxLen) (hi : i.length ≤ maxLen) : laws_szCol.f a b s i m = some (if m - (s.length : Int) - (i.length : Int) < 0 then -1 else m - (s.length : Int) - (i.length : Int)) := by
  unfold laws_szCol.f
  rw [szIntS_f s m h0 h hs, Option.bind_some]
  by_cases h1 : m - (s.length : Int) < 0
  · rw [if_pos h1, if_pos (by omega), if_pos (by omega)]
  · rw [if_neg h1, if_neg h1, szIntS_f i _ (by omega) (by omega) hi, Option.bind_some]
    by_cases h2 : m - (s.length : Int) - (i.length : Int) < 0
    · rw [if_pos h2, if_pos (by omega)]
    · rw [if_neg h2, if_neg h2]
theorem toCol_f (k : Nat) (a b : Int) (s i : List Int) (hs : s.length ≤ 1048576000) (hi : i.length ≤ 1048576000) (hk : s.length < k) (hk2 : i.length < k) : laws_toCol.f k a b s i = some (a, b, s, i) := by
  unfold laws_toCol.f
  rw [toIntS_f k s hs hk, Option.bind_some, toIntS_f k i hi hk2, Option.bind_some]

end Go.Proofs.Ytplbobmllflniaa.Q
