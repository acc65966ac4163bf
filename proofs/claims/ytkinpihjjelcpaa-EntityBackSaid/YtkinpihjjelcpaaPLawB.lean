/- The plain law behind the entity functions, second part: what Longest tells is Find's, no longer beginning is a name, and what can't go on isn't changed by what comes behind. -/
import Derived.Test.YtkinpihjjelcpaaPLawA
namespace Go.Proofs.Ytkinpihjjelcpaa.PE
open Go.RowKit Go.Proofs.YtkinpihjjelcpaaW.PrintWords Go.Proofs.YtkinpihjjelcpaaW.PrintLast
namespace Law

/-- Names have no semicolon, are not empty, and are all different. -/
theorem tab_plain : ∀ x, x ∈ tab → (59 : UInt8) ∉ nm x ∧ nm x ≠ [] := by
  have h : tab.all (fun x => (nm x).all (fun c => c != 59) && !(nm x).isEmpty) = true := by decide +kernel
  intro x hx
  have := List.all_eq_true.1 h x hx
  rw [Bool.and_eq_true] at this
  refine ⟨fun hm => ?_, fun he => ?_⟩
  · have := List.all_eq_true.1 this.1 59 hm
    simp at this
  · rw [he] at this; simp at this
def apart : List (List UInt8) → Bool
  | [] => true
  | a :: l => l.all (fun b => !(a == b)) && apart l
theorem apart_spec : ∀ l : List S43, apart (l.map nm) = true → ∀ x y, x ∈ l → y ∈ l → nm x = nm y → x = y
  | [], _, x, _, hx, _, _ => by cases hx
  | a :: l, h, x, y, hx, hy, e => by
    simp only [List.map_cons, apart, Bool.and_eq_true] at h
    have h1 : ∀ z, z ∈ l → nm a ≠ nm z := fun z hz he => by
      have := List.all_eq_true.1 h.1 (nm z) (List.mem_map_of_mem hz)
      rw [he] at this; simp at this
    rcases List.mem_cons.1 hx with hx | hx <;> rcases List.mem_cons.1 hy with hy | hy
    · rw [hx, hy]
    · rw [hx] at e; exact absurd e (h1 y hy)
    · rw [hy] at e; exact absurd e.symm (h1 x hx)
    · exact apart_spec l h.2 x y hx hy e
theorem tab_apart : ∀ x y, x ∈ tab → y ∈ tab → nm x = nm y → x = y := apart_spec tab (by decide +kernel)
theorem isIt_iff (t : List UInt8) (x : S43) : isIt t x = true ↔ t = nm x ++ [59] ∨ (x.f3 = true ∧ t = nm x) := by
  simp [isIt]
theorem isIt_one (t : List UInt8) (x y : S43) (hx : x ∈ tab) (hy : y ∈ tab) (h1 : isIt t x = true) (h2 : isIt t y = true) : x = y := by
  rw [isIt_iff] at h1 h2
  have px := tab_plain x hx
  have py := tab_plain y hy
  rcases h1 with h1 | ⟨_, h1⟩ <;> rcases h2 with h2 | ⟨_, h2⟩
  · exact tab_apart x y hx hy (by rw [h1] at h2; exact List.append_cancel_right h2)
  · exact absurd (by rw [← h2, h1]; simp) py.1
  · exact absurd (by rw [← h1, h2]; simp) px.1
  · exact tab_apart x y hx hy (by rw [← h1, ← h2])
theorem find_of (t : List UInt8) (x : S43) : ∀ l, x ∈ l → isIt t x = true → (∀ y, y ∈ l → isIt t y = true → says y = says x) → find t l = (says x, true)
  | [], hx, _, _ => by cases hx
  | y :: l, hx, hi, hu => by
    unfold find
    by_cases hy : isIt t y = true
    · rw [if_pos hy, hu y List.mem_cons_self hy]
    · rw [if_neg hy]
      refine find_of t x l ?_ hi (fun z hz => hu z (List.mem_cons_of_mem _ hz))
      rcases List.mem_cons.1 hx with rfl | hx
      · exact absurd hi hy
      · exact hx
theorem find_none (t : List UInt8) : ∀ l, (∀ y, y ∈ l → isIt t y = false) → find t l = ([], false)
  | [], _ => rfl
  | y :: l, h => by
    unfold find
    rw [h y List.mem_cons_self]
    simp only [Bool.false_eq_true, if_false]
    exact find_none t l (fun z hz => h z (List.mem_cons_of_mem _ hz))
theorem find_tab (t : List UInt8) (x : S43) (hx : x ∈ tab) (h : isIt t x = true) : find t tab = (says x, true) :=
  find_of t x tab hx h (fun y hy hi => by rw [isIt_one t x y hx hy h hi])

/-! ### Longest: what it tells -/
theorem pre_takes {s p : List UInt8} (h : pre s p = true) : s.take p.length = p ∧ p.length ≤ s.length := by
  rw [pre_take, Bool.and_eq_true] at h
  exact ⟨by simpa using h.2, of_decide_eq_true h.1⟩
theorem semi_takes {s : List UInt8} {x : S43} (h : pre s (nm x) = true) (h1 : semiAt s x = true) : s.take ((nm x).length + 1) = nm x ++ [59] ∧ (nm x).length + 1 ≤ s.length := by
  obtain ⟨e, hl⟩ := pre_takes h
  have h1 : s[(nm x).length]? = some 59 := by simpa [semiAt] using h1
  obtain ⟨hlt, h2⟩ := List.getElem?_eq_some_iff.1 h1
  refine ⟨?_, hlt⟩
  rw [List.take_succ_eq_append_getElem hlt, e, h2]
/-- What is told: nothing has turned, or a name of the list that stands at the beginning. -/
def Told (s : List UInt8) (l : List S43) (r q : Nat × List Int) : Prop := q = r ∨ ∃ x, x ∈ l ∧ q.2 = says x ∧ q.1 ≤ s.length ∧ isIt (s.take q.1) x = true
theorem step_told (s : List UInt8) (l : List S43) (r : Nat × List Int) (x : S43) (hx : x ∈ l) : Told s l r (step s r x) := by
  unfold step
  by_cases hp : pre s (nm x) = true
  · rw [if_pos hp]
    by_cases h1 : semiAt s x = true
    · rw [if_pos h1]
      obtain ⟨e, hl⟩ := semi_takes hp h1
      by_cases h2 : r.1 < (nm x).length + 1
      · rw [if_pos h2]; exact .inr ⟨x, hx, rfl, hl, by rw [isIt_iff]; exact .inl e⟩
      · rw [if_neg h2]; exact .inl rfl
    · rw [if_neg h1]
      obtain ⟨e, hl⟩ := pre_takes hp
      by_cases h3 : x.f3 = true
      · rw [if_pos h3]
        by_cases h2 : r.1 < (nm x).length
        · rw [if_pos h2]; exact .inr ⟨x, hx, rfl, hl, by rw [isIt_iff]; exact .inr ⟨h3, e⟩⟩
        · rw [if_neg h2]; exact .inl rfl
      · rw [if_neg h3]; exact .inl rfl
  · rw [if_neg hp]; exact .inl rfl
theorem longest_told (s : List UInt8) (L : List S43) : ∀ (l : List S43) (r : Nat × List Int), (∀ x, x ∈ l → x ∈ L) → Told s L r (longest s r l)
  | [], r, _ => .inl rfl
  | x :: l, r, h => by
    unfold longest
    rcases longest_told s L l (step s r x) (fun y hy => h y (List.mem_cons_of_mem _ hy)) with e | e
    · rw [e]; exact step_told s L r x (h x List.mem_cons_self)
    · exact .inr e
theorem step_up (s : List UInt8) (r : Nat × List Int) (x : S43) : r.1 ≤ (step s r x).1 := by
  unfold step
  repeat' split
  all_goals first | exact Nat.le_refl _ | (simp only; omega)
theorem step_most (s : List UInt8) (r : Nat × List Int) (x : S43) (m : Nat) (hm : m ≤ s.length) (h : isIt (s.take m) x = true) : m ≤ (step s r x).1 := by
  rw [isIt_iff] at h
  unfold step
  rcases h with h | ⟨h3, h⟩
  · have hl : m = (nm x).length + 1 := by
      have := congrArg List.length h
      simp at this; omega
    have hs : s = nm x ++ (59 :: s.drop m) := by
      have := List.take_append_drop m s
      rw [h] at this
      simpa using this.symm
    have hp : pre s (nm x) = true := (pre_iff _ _).2 ⟨_, hs⟩
    have h1 : semiAt s x = true := by
      unfold semiAt
      rw [hs]; simp
    rw [if_pos hp, if_pos h1]
    split
    · simp only; omega
    · omega
  · have hl : m = (nm x).length := by
      have := congrArg List.length h
      simp at this; omega
    have hs : s = nm x ++ s.drop m := by
      have := List.take_append_drop m s
      rw [h] at this
      exact this.symm
    have hp : pre s (nm x) = true := (pre_iff _ _).2 ⟨_, hs⟩
    rw [if_pos hp]
    split
    · split
      · simp only; omega
      · omega
    · split
      · simp only; omega
      · omega
theorem longest_up (s : List UInt8) : ∀ (l : List S43) (r : Nat × List Int), r.1 ≤ (longest s r l).1
  | [], _ => Nat.le_refl _
  | x :: l, r => Nat.le_trans (step_up s r x) (longest_up s l (step s r x))
theorem longest_most (s : List UInt8) (m : Nat) (hm : m ≤ s.length) (x : S43) (h : isIt (s.take m) x = true) : ∀ (l : List S43) (r : Nat × List Int), x ∈ l → m ≤ (longest s r l).1
  | [], _, hx => by cases hx
  | y :: l, r, hx => by
    unfold longest
    rcases List.mem_cons.1 hx with rfl | hx
    · exact Nat.le_trans (step_most s r x m hm h) (longest_up s l _)
    · exact longest_most s m hm x h l _ hx
theorem longest_le (s : List UInt8) : (longest s (0, []) tab).1 ≤ s.length := by
  rcases longest_told s tab tab (0, []) (fun _ h => h) with e | ⟨x, _, _, h, _⟩
  · rw [e]; exact Nat.zero_le _
  · exact h
theorem longest_found (s : List UInt8) (h : 0 < (longest s (0, []) tab).1) : find (s.take (longest s (0, []) tab).1) tab = ((longest s (0, []) tab).2, true) := by
  rcases longest_told s tab tab (0, []) (fun _ h => h) with e | ⟨x, hx, e, _, hi⟩
  · rw [e] at h; exact absurd h (Nat.lt_irrefl 0)
  · rw [find_tab _ x hx hi, e]
theorem longest_last (s : List UInt8) (m : Nat) (h : (longest s (0, []) tab).1 < m) (hm : m ≤ s.length) : find (s.take m) tab = ([], false) := by
  refine find_none _ tab (fun y hy => ?_)
  cases hi : isIt (s.take m) y with
  | false => rfl
  | true =>
    have := longest_most s m hm y hi tab (0, []) hy
    omega

/-! ### what can't go on -/
theorem begins_false (s : List UInt8) : ∀ l, begins s l = false → ∀ x, x ∈ l → pre (nm x) s = false
  | [], _, _, hx => by cases hx
  | y :: l, h, x, hx => by
    unfold begins at h
    by_cases hy : pre (nm y) s = true
    · rw [if_pos hy] at h; cases h
    · rw [if_neg hy] at h
      rcases List.mem_cons.1 hx with rfl | hx
      · simpa using hy
      · exact begins_false s l h x hx
theorem pre_more (s more p : List UInt8) (h : pre p s = false) : pre (s ++ more) p = pre s p := by
  rw [Bool.eq_iff_iff, pre_iff, pre_iff]
  constructor
  · rintro ⟨r, e⟩
    rcases List.append_eq_append_iff.1 e with ⟨a, e1, _⟩ | ⟨a, e1, _⟩
    · exact absurd ((pre_iff p s).2 ⟨a, e1⟩) (by rw [h]; simp)
    · exact ⟨a, e1⟩
  · rintro ⟨r, e⟩
    exact ⟨r ++ more, by rw [e, List.append_assoc]⟩
theorem step_more (s more : List UInt8) (r : Nat × List Int) (x : S43) (h : pre (nm x) s = false) : step (s ++ more) r x = step s r x := by
  unfold step
  rw [pre_more s more (nm x) h]
  by_cases hp : pre s (nm x) = true
  · have hl : (nm x).length < s.length := by
      obtain ⟨q, e⟩ := (pre_iff _ _).1 hp
      cases q with
      | nil =>
        rw [List.append_nil] at e
        exact absurd ((pre_iff (nm x) s).2 ⟨[], by rw [e]; simp⟩) (by rw [h]; simp)
      | cons c q => rw [e]; simp
    have e : semiAt (s ++ more) x = semiAt s x := by
      unfold semiAt
      rw [List.getElem?_append_left hl]
    rw [e]
  · rw [if_neg hp, if_neg hp]
theorem longest_more (s more : List UInt8) : ∀ (l : List S43) (r : Nat × List Int), (∀ x, x ∈ l → pre (nm x) s = false) → longest (s ++ more) r l = longest s r l
  | [], _, _ => rfl
  | x :: l, r, h => by
    unfold longest
    rw [step_more s more r x (h x List.mem_cons_self), longest_more s more l _ (fun y hy => h y (List.mem_cons_of_mem _ hy))]
end Law
end Go.Proofs.Ytkinpihjjelcpaa.PE
