/- EntityNames, in plain Lean: as many marks are met in the tree as there are names. -/
import Derived.Test.YtkinpihjjelcpaaPN4
import Derived.Test.YtkinpihjjelcpaaPEName
namespace Go.Proofs.Ytkinpihjjelcpaa.PE
set_option linter.unusedSimpArgs false
set_option linter.unusedVariables false
namespace Tr
def sumTo (f : Nat → Nat) : Nat → Nat
  | 0 => 0
  | c + 1 => sumTo f c + f c
theorem sumTo_zero {f : Nat → Nat} : ∀ n, (∀ c, c < n → f c = 0) → sumTo f n = 0
  | 0, _ => rfl
  | n + 1, h => by rw [sumTo, sumTo_zero n (fun c hc => h c (by omega)), h n (by omega)]
theorem sumTo_one {f : Nat → Nat} (x : Nat) (hx : f x = 1) (h0 : ∀ c, c ≠ x → f c = 0) : ∀ n, x < n → sumTo f n = 1
  | n + 1, h => by
    rw [sumTo]
    by_cases e : x = n
    · subst e
      rw [sumTo_zero x (fun c hc => h0 c (by omega)), hx]
    · rw [sumTo_one x hx h0 n (by omega), h0 n (by omega)]
theorem sumTo_add (f g : Nat → Nat) : ∀ n, sumTo (fun c => f c + g c) n = sumTo f n + sumTo g n
  | 0 => rfl
  | n + 1 => by simp only [sumTo, sumTo_add f g n]; omega
/-- How many of the paths begin with p. -/
def cnt (Ls : List (List Nat)) (p : List Nat) : Nat := (Ls.filter (fun s => p.isPrefixOf s)).length
def eqs (Ls : List (List Nat)) (p : List Nat) : Nat := (Ls.filter (fun s => p == s)).length
theorem single (s p : List Nat) (h : ∀ x ∈ s, x < 128) : (if p.isPrefixOf s then 1 else 0) = (if p == s then 1 else 0) + sumTo (fun c => if (p ++ [c]).isPrefixOf s then 1 else 0) 128 := by
  by_cases hp : p <+: s
  · obtain ⟨t, rfl⟩ := hp
    rw [if_pos (by simp)]
    cases t with
    | nil =>
      rw [if_pos (by simp), sumTo_zero 128 (fun c _ => ?_)]
      rw [if_neg]
      intro hc
      have := (List.isPrefixOf_iff_prefix.1 hc).length_le
      simp only [List.length_append, List.length_singleton, List.length_nil] at this
      omega
    | cons x t =>
      rw [if_neg (by simp), sumTo_one x _ _ 128 (h x (by simp))]
      · rw [if_pos]
        rw [List.isPrefixOf_iff_prefix]
        exact ⟨t, by simp⟩
      · intro c hc
        rw [if_neg]
        intro hpre
        obtain ⟨u, hu⟩ := List.isPrefixOf_iff_prefix.1 hpre
        rw [List.append_assoc] at hu
        have := List.append_cancel_left hu
        simp at this
        exact hc this.1
  · rw [if_neg (by rwa [List.isPrefixOf_iff_prefix]), if_neg (by intro e; exact hp (by rw [eq_of_beq e]; exact List.prefix_refl _)), sumTo_zero 128 (fun c _ => ?_)]
    rw [if_neg]
    intro hc
    exact hp ((List.prefix_append _ _).trans (List.isPrefixOf_iff_prefix.1 hc))
theorem cnt_cons (s : List Nat) (Ls : List (List Nat)) (p : List Nat) : cnt (s :: Ls) p = (if p.isPrefixOf s then 1 else 0) + cnt Ls p := by
  unfold cnt
  rw [List.filter_cons]
  split <;> simp [Nat.add_comm]
theorem eqs_cons (s : List Nat) (Ls : List (List Nat)) (p : List Nat) : eqs (s :: Ls) p = (if p == s then 1 else 0) + eqs Ls p := by
  unfold eqs
  rw [List.filter_cons]
  split <;> simp [Nat.add_comm]
theorem parted (p : List Nat) : ∀ Ls : List (List Nat), (∀ s ∈ Ls, ∀ x ∈ s, x < 128) → cnt Ls p = eqs Ls p + sumTo (fun c => cnt Ls (p ++ [c])) 128
  | [], _ => by
    rw [sumTo_zero (f := fun c => cnt [] (p ++ [c])) 128 (fun c _ => rfl)]; rfl
  | s :: Ls, h => by
    have e : sumTo (fun c => cnt (s :: Ls) (p ++ [c])) 128 = sumTo (fun c => if (p ++ [c]).isPrefixOf s then 1 else 0) 128 + sumTo (fun c => cnt Ls (p ++ [c])) 128 := by
      rw [← sumTo_add]
      congr 1
      funext c
      exact cnt_cons s Ls _
    rw [cnt_cons, eqs_cons, e, single s p (h s (by simp)), parted p Ls (fun s hs => h s (by simp [hs]))]
    omega
theorem eqs_nodup (p : List Nat) : ∀ Ls : List (List Nat), Ls.Nodup → eqs Ls p = (if Ls.any (fun s => p == s) then 1 else 0)
  | [], _ => rfl
  | s :: Ls, h => by
    rw [List.nodup_cons] at h
    rw [eqs_cons, eqs_nodup p Ls h.2, List.any_cons]
    by_cases e : p = s
    · subst e
      have : Ls.any (fun s => p == s) = false := by
        rw [List.any_eq_false]
        intro s hs e
        rw [eq_of_beq e] at h
        exact h.1 hs
      simp [this]
    · simp [e]
theorem upTo_sum (Pf : List Nat → Bool) (ch : Nat → Nat) (p : List Nat) (g : Nat → Nat) (hg : ∀ c, (if Pf (p ++ [c]) then ch c else 0) = g c) : ∀ n, upTo Pf ch p n = sumTo g n
  | 0 => rfl
  | n + 1 => by rw [upTo, sumTo, upTo_sum Pf ch p g hg n, hg]
theorem cnt_none {Ls : List (List Nat)} {p : List Nat} (h : Ls.any (fun s => p.isPrefixOf s) = false) : cnt Ls p = 0 := by
  unfold cnt
  rw [List.length_eq_zero_iff, List.filter_eq_nil_iff]
  intro s hs
  simpa using (List.any_eq_false.1 h) s hs
theorem walk_cnt (L : List ByteArray) (h128 : ∀ s ∈ L.map bytes, ∀ x ∈ s, x < 128) (hnd : (L.map bytes).Nodup) : ∀ (d : Nat) (p : List Nat), (∀ s ∈ L.map bytes, p <+: s → s.length ≤ p.length + d) → walkN (PfL L) (NmL L) d p = cnt (L.map bytes) p := by
  have hN : ∀ p, NmL L p = (L.map bytes).any (fun s => p == s) := fun p => by simp [NmL, List.any_map, Function.comp_def]
  have hP : ∀ p c, PfL L (p ++ [c]) = (L.map bytes).any (fun s => (p ++ [c]).isPrefixOf s) := fun p c => by
    unfold PfL
    rw [List.any_map]
    simp [Function.comp_def]
  have hZ : ∀ p c (v : Nat), (L.map bytes).any (fun s => (p ++ [c]).isPrefixOf s) = false → (if PfL L (p ++ [c]) then v else 0) = cnt (L.map bytes) (p ++ [c]) := fun p c v h => by
    rw [hP, h, cnt_none h]; rfl
  intro d
  induction d with
  | zero =>
    intro p hp
    unfold walkN cntAt
    rw [parted p _ h128, eqs_nodup p _ hnd, ← hN, upTo_sum (PfL L) _ p (fun c => cnt (L.map bytes) (p ++ [c])) (fun c => ?_)]
    refine hZ p c 0 ?_
    rw [List.any_eq_false]
    intro s hs hc
    have hc' := List.isPrefixOf_iff_prefix.1 hc
    have h1 := hp s hs ((List.prefix_append _ _).trans hc')
    have h2 := hc'.length_le
    rw [List.length_append, List.length_singleton] at h2
    omega
  | succ d ih =>
    intro p hp
    unfold walkN cntAt
    rw [parted p _ h128, eqs_nodup p _ hnd, ← hN, upTo_sum (PfL L) _ p (fun c => cnt (L.map bytes) (p ++ [c])) (fun c => ?_)]
    cases hc : (L.map bytes).any (fun s => (p ++ [c]).isPrefixOf s)
    · exact hZ p c _ hc
    · rw [hP, hc, if_pos rfl]
      refine ih (p ++ [c]) (fun s hs h => ?_)
      have := hp s hs ((List.prefix_append _ _).trans h)
      rw [List.length_append, List.length_singleton]
      omega
theorem cnt_root (Ls : List (List Nat)) : cnt Ls [] = Ls.length := by
  unfold cnt
  rw [List.filter_eq_self.2 (fun _ _ => by simp)]
/-- What is asked of the table, for the kernel to reckon. -/
theorem tab_bytes : ∀ s ∈ (tab.flatMap putOf).map bytes, s.length ≤ 101 ∧ ∀ x ∈ s, x < 128 := by
  have h : ((tab.flatMap putOf).map bytes).all (fun s => decide (s.length ≤ 101) && s.all (fun x => decide (x < 128))) = true := by decide +kernel
  intro s hs
  have h1 := List.all_eq_true.1 h s hs
  simp only [Bool.and_eq_true, decide_eq_true_eq, List.all_eq_true] at h1
  exact h1
/-- A quick test of distinctness. -/
def distinct : List (List Nat) → Bool
  | [] => true
  | s :: L => L.all (fun t => !(s == t)) && distinct L
theorem nodup_of_distinct : ∀ L, distinct L = true → L.Nodup
  | [], _ => List.nodup_nil
  | s :: L, h => by
    simp only [distinct, Bool.and_eq_true, List.all_eq_true] at h
    refine List.nodup_cons.2 ⟨fun hs => ?_, nodup_of_distinct L h.2⟩
    have := h.1 s hs
    simp at this
theorem tab_distinct : ((tab.flatMap putOf).map bytes).Nodup := nodup_of_distinct _ (by decide +kernel)
theorem tab_length_names : (tab.flatMap putOf).length = Tab.sorted.length := by decide +kernel
theorem hcount : allN 101 = Tab.sorted.length := by
  unfold allN
  rw [walk_cnt _ (fun s hs => (tab_bytes s hs).2) tab_distinct 101 [] (fun s hs _ => by have := (tab_bytes s hs).1; simpa using this), cnt_root, List.length_map, tab_length_names]
theorem hlong : ∀ q, PfL (tab.flatMap putOf) q = true → q.length ≤ 101 := by
  intro q hq
  unfold PfL at hq
  rw [Bool.or_eq_true] at hq
  rcases hq with hq | hq
  · rw [List.isEmpty_iff.1 hq]; exact Nat.zero_le _
  · obtain ⟨s, hs, hpre⟩ := List.any_eq_true.1 hq
    exact Nat.le_trans (List.isPrefixOf_iff_prefix.1 hpre).length_le (tab_bytes _ (List.mem_map_of_mem hs)).1
#print axioms hcount
#print axioms hlong
end Tr
end Go.Proofs.Ytkinpihjjelcpaa.PE
