/- EntitySure: Longest is Find's of that beginning; what can't go on is not changed by what comes behind; no condition on the texts. Here: the pure statement over the printed functions. -/
import Derived.Test.YtkinpihjjelcpaaPLawB
namespace Go.Proofs.Ytkinpihjjelcpaa.Pure
open Go.RowKit Go.Proofs.Ytkinpihjjelcpaa.PE Go.Proofs.Ytkinpihjjelcpaa.PE.Law Go.Proofs.YtkinpihjjelcpaaW.PrintWords Go.Proofs.YtkinpihjjelcpaaW.PrintLast

theorem extract_take (s : ByteArray) (n : Nat) : (s.extract 0 (n : Int).toNat).data.toList = s.data.toList.take n := by
  rw [ByteArray.data_extract, Int.toNat_natCast]; simp

theorem tail (s more : ByteArray) (h1 : s.size ≤ 140737488351232) (h2 : more.size ≤ 140737488351232) (i : Int) (k : Nat) (hk : 700 < k) :
    sievelaw05_EntitySure.j3 (k + 1) s more (out (longest s.data.toList (0, []) tab)).1 (out (longest s.data.toList (0, []) tab)).2 i false = some true := by
  rw [sievelaw05_EntitySure.j3]
  simp only [Bool.false_eq_true, if_false]
  rw [begins_eq s k (by omega), lives_eq k (by omega)]
  simp only [Option.bind_some]
  by_cases hb : begins s.data.toList tab = true
  · rw [if_pos hb]
  · rw [if_neg hb, if_pos (by omega), longest_eq _ k (by omega)]
    have hb' : begins s.data.toList tab = false := by simpa using hb
    have e : longest (s ++ more).data.toList (0, []) tab = longest s.data.toList (0, []) tab := by
      rw [ByteArray.data_append, Array.toList_append]
      exact longest_more _ _ tab (0, []) (begins_false _ tab hb')
    rw [e]
    simp only [Option.bind_some, if_true]
    have hl := longest_length s.data.toList tab (0, []) (by simp)
    rw [same_eq _ _ (by simp only [out]; omega) k (by simp only [out]; omega)]
    simp

theorem rounds (s more : ByteArray) (h1 : s.size ≤ 140737488351232) (h2 : more.size ≤ 140737488351232) : ∀ (d i k : Nat), (longest s.data.toList (0, []) tab).1 < i → (longest s.data.toList (0, []) tab).1 + 40 - i = d → 2 * d + 800 < k →
    sievelaw05_EntitySure.l0 k s more (out (longest s.data.toList (0, []) tab)).1 (out (longest s.data.toList (0, []) tab)).2 (i : Int) = some true
  | d, i, k + 1, hi, hd, hk => by
    have hle := longest_le s.data.toList
    rw [length_eq] at hle
    rw [sievelaw05_EntitySure.l0]
    have hw : wrap64 ((out (longest s.data.toList (0, []) tab)).1 + 40) = (((longest s.data.toList (0, []) tab).1 + 40 : Nat) : Int) := by
      simp only [out]
      rw [IntWalk.wrap64_in _ (by omega)]; rfl
    obtain ⟨k, rfl⟩ : ∃ m, k = m + 1 := ⟨k - 1, by omega⟩
    by_cases hs : i ≤ s.size
    · rw [if_pos (by omega), hw]
      by_cases hlt : i < (longest s.data.toList (0, []) tab).1 + 40
      · rw [decide_eq_true (by omega : (i : Int) < (((longest s.data.toList (0, []) tab).1 + 40 : Nat) : Int))]
        match d, hd, hk with
        | d + 1, hd, hk =>
          have ih := rounds s more h1 h2 d (i + 1) k (by omega) (by omega) (by omega)
          rw [sievelaw05_EntitySure.j3, if_pos rfl, if_pos (by omega), if_pos (by omega), find_eq _ k (by omega), extract_take]
          rw [longest_last s.data.toList i hi (by rw [length_eq]; exact hs)]
          simp only [Option.bind_some, Bool.false_eq_true, if_false]
          rw [IntWalk.wrap64_in _ (by omega)]
          exact ih
        | 0, hd, _ => omega
      · rw [decide_eq_false (by omega : ¬ (i : Int) < (((longest s.data.toList (0, []) tab).1 + 40 : Nat) : Int))]
        exact tail s more h1 h2 i k (by omega)
    · rw [if_neg (by omega)]
      exact tail s more h1 h2 i k (by omega)

theorem EntitySure : sievelaw05_EntitySure.Pure := by
  intro s more h1 h2
  refine ⟨2000, ?_⟩
  unfold sievelaw05_EntitySure.f
  rw [longest_eq s 2000 (by omega)]
  simp only [Option.bind_some]
  have hle := longest_le s.data.toList
  rw [length_eq] at hle
  have hr := rounds s more h1 h2 39 ((longest s.data.toList (0, []) tab).1 + 1) 1998 (by omega) (by omega) (by omega)
  have hw : wrap64 ((out (longest s.data.toList (0, []) tab)).1 + 1) = (((longest s.data.toList (0, []) tab).1 + 1 : Nat) : Int) := by
    simp only [out]
    rw [IntWalk.wrap64_in _ (by omega)]; rfl
  have hj : sievelaw05_EntitySure.j1 1999 s more (out (longest s.data.toList (0, []) tab)).1 (out (longest s.data.toList (0, []) tab)).2 = some true := by
    rw [sievelaw05_EntitySure.j1, hw]
    exact hr
  have e0 : (out (longest s.data.toList (0, []) tab)).1 = ((longest s.data.toList (0, []) tab).1 : Int) := rfl
  rw [if_neg (by omega), decide_eq_false (by omega : ¬ (out (longest s.data.toList (0, []) tab)).1 > (s.size : Int))]
  rw [sievelaw05_EntitySure.j0]
  simp only [Bool.false_eq_true, if_false]
  by_cases hp : (out (longest s.data.toList (0, []) tab)).1 > 0
  · rw [if_pos hp, if_pos (by omega), if_pos (by omega), find_eq _ 1999 (by omega), e0, extract_take, longest_found s.data.toList (by omega)]
    simp only [Option.bind_some, if_true]
    have hl := longest_length s.data.toList tab (0, []) (by simp)
    rw [same_eq _ _ (by omega) 1999 (by omega)]
    simp only [Option.bind_some]
    rw [if_pos (by simp [out])]
    exact hj
  · rw [if_neg hp]
    exact hj

end Go.Proofs.Ytkinpihjjelcpaa.Pure
