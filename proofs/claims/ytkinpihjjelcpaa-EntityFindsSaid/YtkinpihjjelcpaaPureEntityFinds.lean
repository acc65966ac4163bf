/- EntityFinds: Find, Longest and Begins of any text are what the reference says; no condition on the text. Here: the pure statement over the printed functions. -/
import Derived.Test.YtkinpihjjelcpaaPLawA
namespace Go.Proofs.Ytkinpihjjelcpaa.Pure
open Go.RowKit Go.Proofs.Ytkinpihjjelcpaa.PE Go.Proofs.Ytkinpihjjelcpaa.PE.Law Go.Proofs.YtkinpihjjelcpaaW.PrintWords Go.Proofs.YtkinpihjjelcpaaW.PrintLast

theorem overwritten (b : List Int) (hb : b.length ≤ 2) : ∀ (d : Nat) (a : List Int) (i k : Nat), a.length ≤ 2 → a.length - i = d → d + 700 < k →
    sievelaw05_EntityFinds.l0 k a b b (a.length : Int) (i : Int) = some true
  | d, a, i, k + 1, ha, hd, hk => by
    simp only [sievelaw05_EntityFinds.l0]
    by_cases hi : i < a.length
    · match d, hd, hk with
      | d + 1, hd, hk =>
        have ih := overwritten b hb d (a.set i 120) (i + 1) k (by simpa using ha) (by simp; omega) (by omega)
        rw [List.length_set] at ih
        rw [if_pos (by omega), if_pos (by omega), if_pos (by omega), up hi (by omega), Int.toNat_natCast]
        exact ih
      | 0, hd, _ => omega
    · rw [if_neg (by omega), same_eq b b (by omega) k (by omega), lives_eq k (by omega)]
      simp

theorem EntityFinds : sievelaw05_EntityFinds.Pure := by
  intro s _
  refine ⟨1000, ?_⟩
  unfold sievelaw05_EntityFinds.f
  have hf := find_length s.data.toList tab
  have hl := longest_length s.data.toList tab (0, []) (by simp)
  rw [find_eq s 1000 (by omega), refFind_eq s 1000 (by omega), longest_eq s 1000 (by omega), refLongest_eq s 1000 (by omega)]
  simp only [Option.bind_some, bne_self_eq_false, Bool.false_eq_true, if_false]
  rw [same_eq _ _ (by omega) 1000 (by omega)]
  simp only [Option.bind_some, decide_true, if_true]
  rw [same_eq _ _ (by simp only [out]; omega) 1000 (by simp only [out]; omega), begins_eq s 1000 (by omega), refBegins_eq s 1000 (by omega)]
  simp only [Option.bind_some, decide_true, if_true, bne_self_eq_false]
  rw [sievelaw05_EntityFinds.j0]
  simp only [Bool.false_eq_true, if_false]
  exact overwritten _ hf _ _ 0 999 hf rfl (by omega)

end Go.Proofs.Ytkinpihjjelcpaa.Pure
