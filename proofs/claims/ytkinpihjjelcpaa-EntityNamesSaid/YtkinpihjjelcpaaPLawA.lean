/- The plain law behind the entity functions, first part: what their loops compute, as functions of the list of entities. No program in sight. -/
import Derived.Test.YtkinpihjjelcpaaPEf3
import Derived.Test.YtkinpihjjelcpaaPEf4
namespace Go.Proofs.Ytkinpihjjelcpaa.PE
open Go.RowKit Go.Proofs.YtkinpihjjelcpaaW.PrintWords Go.Proofs.YtkinpihjjelcpaaW.PrintLast
namespace Law

theorem toList_eq (s : ByteArray) : s.toList = s.data.toList := ByteArray.toList_eq s
theorem length_eq (s : ByteArray) : s.data.toList.length = s.size := by rw [Array.length_toList]; rfl

/-- A name's bytes. -/
def nm (x : S43) : List UInt8 := x.f0.data.toList
def says (x : S43) : List Int := if x.f2 = 0 then [x.f1] else [x.f1, x.f2]
/-- Does a text begin with another one? -/
def pre : List UInt8 → List UInt8 → Bool
  | _, [] => true
  | [], _ :: _ => false
  | a :: s, b :: p => a == b && pre s p
theorem pre_iff : ∀ s p : List UInt8, pre s p = true ↔ ∃ r, s = p ++ r
  | s, [] => by simp [pre]
  | [], b :: p => by simp [pre]
  | a :: s, b :: p => by
    simp only [pre, Bool.and_eq_true, beq_iff_eq, pre_iff s p]
    constructor
    · rintro ⟨rfl, r, rfl⟩; exact ⟨r, rfl⟩
    · rintro ⟨r, h⟩
      injection h with h1 h2
      exact ⟨h1, r, h2⟩
theorem pre_take : ∀ s p : List UInt8, pre s p = (decide (p.length ≤ s.length) && (s.take p.length == p))
  | s, [] => by simp [pre]
  | [], b :: p => by simp [pre]
  | a :: s, b :: p => by
    simp only [pre, pre_take s p, List.length_cons, List.take_succ_cons, Nat.add_le_add_iff_right]
    by_cases h : a = b
    · subst h; simp
    · have h1 : (a == b) = false := by simpa using h
      have h2 : (a :: List.take p.length s == b :: p) = false := by simp [h]
      rw [h1, h2]; simp
theorem sub_eq (a b : ByteArray) (h : b.size ≤ a.size) : ((a.extract 0 ((b.size : Int) : Int).toNat).toList == b.toList) = pre a.data.toList b.data.toList := by
  rw [pre_take, toList_eq, toList_eq, Int.toNat_natCast, length_eq, length_eq, decide_eq_true h, Bool.true_and, ByteArray.data_extract]
  simp
theorem pre_short (a b : ByteArray) (h : a.size < b.size) : pre a.data.toList b.data.toList = false := by
  rw [pre_take, length_eq, length_eq, decide_eq_false (by omega)]; rfl
theorem hasPrefix_eq (a b : ByteArray) : strings_HasPrefix.f a b = some (pre a.data.toList b.data.toList) := by
  unfold strings_HasPrefix.f stringslite_HasPrefix.f
  by_cases h : b.size ≤ a.size
  · rw [if_pos (by omega), if_pos (by omega), if_pos (by omega), sub_eq a b h]; rfl
  · rw [if_neg (by omega), pre_short a b (by omega)]; rfl
theorem refPrefix_eq (a b : ByteArray) : sieveref05_Prefix.f a b = some (pre a.data.toList b.data.toList) := by
  unfold sieveref05_Prefix.f
  by_cases h : b.size ≤ a.size
  · rw [if_pos (by omega), if_pos (by omega), if_pos (by omega), sub_eq a b h]
  · rw [if_neg (by omega), pre_short a b (by omega)]
theorem says_eq (x : S43) : entity_says.f x.f0 x.f1 x.f2 x.f3 = some (says x) := by
  unfold entity_says.f says
  split <;> rfl
theorem refSays_eq (x : S43) : sieveref05_says.f x.f0 x.f1 x.f2 x.f3 = some (says x) := by
  unfold sieveref05_says.f says
  split <;> rfl

/-- All names are short. -/
def Short (l : List S43) : Prop := ∀ x, x ∈ l → x.f0.size ≤ 100
theorem tab_short : Short tab := by
  have h : tab.all (fun x => decide (x.f0.size ≤ 100)) = true := by decide +kernel
  intro x hx
  exact of_decide_eq_true (List.all_eq_true.1 h x hx)
theorem at_i {l rest : List S43} {i : Nat} {x : S43} (h : l.drop i = x :: rest) : i < l.length ∧ rd_T43 l (i : Int) = x ∧ x ∈ l ∧ l.drop (i + 1) = rest := by
  have hi : i < l.length := by
    rcases Nat.lt_or_ge i l.length with h1 | h1
    · exact h1
    · rw [List.drop_eq_nil_of_le h1] at h; cases h
  rw [List.drop_eq_getElem_cons hi] at h
  injection h with h1 h2
  refine ⟨hi, ?_, ?_, h2⟩
  · unfold rd_T43
    rw [Int.toNat_natCast, List.getD_eq_getElem?_getD, List.getElem?_eq_getElem hi]
    exact h1
  · rw [← h1]; exact List.getElem_mem hi
theorem at_end {l : List S43} {i : Nat} (h : l.drop i = []) : l.length ≤ i := by
  have := congrArg List.length h
  simp at this
  omega
theorem up {i n : Nat} (h : i < n) (hn : n ≤ 1000000) : wrap64 ((i : Int) + 1) = ((i + 1 : Nat) : Int) := by
  rw [IntWalk.wrap64_in _ (by omega)]; rfl

/-! ### Find -/
def isIt (s : List UInt8) (x : S43) : Bool := s == nm x ++ [59] || (x.f3 && s == nm x)
def find (s : List UInt8) : List S43 → List Int × Bool
  | [] => ([], false)
  | x :: l => if isIt s x then (says x, true) else find s l
theorem semi (x : S43) : (x.f0 ++ (⟨#[59]⟩ : ByteArray)).toList = nm x ++ [59] := by
  rw [toList_eq, ByteArray.data_append]; simp [nm]
theorem find_l0 (s : ByteArray) (l : List S43) (hs : Short l) (hl : l.length ≤ 1000000) : ∀ (rest : List S43) (i k : Nat), l.drop i = rest → rest.length < k →
    entity_Find.l0 k s l (l.length : Int) (i : Int) = some (find s.data.toList rest)
  | [], i, k + 1, h, _ => by
    have := at_end h
    simp only [entity_Find.l0]
    rw [if_neg (by omega)]
    rfl
  | x :: rest, i, k + 1, h, hk => by
    obtain ⟨hi, hx, hm, hr⟩ := at_i h
    have ih := find_l0 s l hs hl rest (i + 1) k hr (by simpa using hk)
    have hsz := hs x hm
    simp only [entity_Find.l0]
    rw [if_pos (by omega), if_pos (by omega), if_pos (by omega), hx, if_pos (by omega), semi, toList_eq, toList_eq, up hi hl, ih, says_eq]
    by_cases h1 : s.data.toList = nm x ++ [59]
    · rw [if_pos h1]; simp [find, isIt, h1]
    · rw [if_neg h1]
      by_cases h2 : x.f3 = true
      · rw [if_pos h2]
        by_cases h3 : s.data.toList = x.f0.data.toList
        · rw [if_pos h3]; simp [find, isIt, h2, h3, nm]
        · rw [if_neg h3]
          have e : isIt s.data.toList x = false := by
            unfold isIt
            rw [beq_eq_false_iff_ne.mpr h1, beq_eq_false_iff_ne.mpr (show s.data.toList ≠ nm x from h3)]
            simp
          simp [find, e]
      · rw [if_neg h2]; simp [find, isIt, h1, h2]
theorem find_eq (s : ByteArray) (k : Nat) (hk : 301 < k) : entity_Find.f k s = some (find s.data.toList tab) := by
  have := find_l0 s tab tab_short (by rw [tab_length]; omega) tab 0 k rfl (by rw [tab_length]; exact hk)
  exact this
theorem refFind_l0 (s : ByteArray) (l : List S43) (hs : Short l) (hl : l.length ≤ 1000000) : ∀ (rest : List S43) (i k : Nat), l.drop i = rest → rest.length < k →
    sieveref05_Find.l0 k s l (l.length : Int) (i : Int) = some (find s.data.toList rest)
  | [], i, k + 1, h, _ => by
    have := at_end h
    simp only [sieveref05_Find.l0]
    rw [if_neg (by omega)]
    rfl
  | x :: rest, i, k + 1, h, hk => by
    obtain ⟨hi, hx, hm, hr⟩ := at_i h
    have ih := refFind_l0 s l hs hl rest (i + 1) k hr (by simpa using hk)
    have hsz := hs x hm
    simp only [sieveref05_Find.l0]
    rw [if_pos (by omega), if_pos (by omega), if_pos (by omega), hx, if_pos (by omega), semi, toList_eq, toList_eq, up hi hl, ih, refSays_eq]
    by_cases h1 : s.data.toList = nm x ++ [59]
    · rw [if_pos h1]; simp [find, isIt, h1]
    · rw [if_neg h1]
      by_cases h2 : x.f3 = true
      · rw [if_pos h2]
        by_cases h3 : s.data.toList = x.f0.data.toList
        · rw [if_pos h3]; simp [find, isIt, h2, h3, nm]
        · rw [if_neg h3]
          have e : isIt s.data.toList x = false := by
            unfold isIt
            rw [beq_eq_false_iff_ne.mpr h1, beq_eq_false_iff_ne.mpr (show s.data.toList ≠ nm x from h3)]
            simp
          simp [find, e]
      · rw [if_neg h2]; simp [find, isIt, h1, h2]
theorem refFind_eq (s : ByteArray) (k : Nat) (hk : 301 < k) : sieveref05_Find.f k s = some (find s.data.toList tab) := by
  have := refFind_l0 s tab tab_short (by rw [tab_length]; omega) tab 0 k rfl (by rw [tab_length]; exact hk)
  exact this

/-! ### Begins -/
def begins (s : List UInt8) : List S43 → Bool
  | [] => false
  | x :: l => if pre (nm x) s then true else begins s l
theorem begins_l0 (s : ByteArray) (l : List S43) (hl : l.length ≤ 1000000) : ∀ (rest : List S43) (i k : Nat), l.drop i = rest → rest.length < k →
    entity_Begins.l0 k s l (l.length : Int) (i : Int) = some (begins s.data.toList rest)
  | [], i, k + 1, h, _ => by
    have := at_end h
    simp only [entity_Begins.l0]
    rw [if_neg (by omega)]
    rfl
  | x :: rest, i, k + 1, h, hk => by
    obtain ⟨hi, hx, hm, hr⟩ := at_i h
    have ih := begins_l0 s l hl rest (i + 1) k hr (by simpa using hk)
    simp only [entity_Begins.l0]
    rw [if_pos (by omega), if_pos (by omega), if_pos (by omega), hx, up hi hl, ih, hasPrefix_eq]
    simp only [begins, Option.bind_some]
    by_cases h1 : s.size ≤ x.f0.size
    · rw [if_pos (by omega)]
      by_cases h2 : pre (nm x) s.data.toList = true
      · rw [if_pos h2]; simp [nm] at h2; simp [h2]
      · rw [if_neg h2]; simp [nm] at h2; simp [h2]
    · rw [if_neg (by omega)]
      have h2 := pre_short x.f0 s (by omega)
      simp [nm, h2]
theorem begins_eq (s : ByteArray) (k : Nat) (hk : 301 < k) : entity_Begins.f k s = some (begins s.data.toList tab) := by
  have := begins_l0 s tab (by rw [tab_length]; omega) tab 0 k rfl (by rw [tab_length]; exact hk)
  exact this
theorem refBegins_l0 (s : ByteArray) (l : List S43) (hl : l.length ≤ 1000000) : ∀ (rest : List S43) (i k : Nat), l.drop i = rest → rest.length < k →
    sieveref05_Begins.l0 k s l (l.length : Int) (i : Int) = some (begins s.data.toList rest)
  | [], i, k + 1, h, _ => by
    have := at_end h
    simp only [sieveref05_Begins.l0]
    rw [if_neg (by omega)]
    rfl
  | x :: rest, i, k + 1, h, hk => by
    obtain ⟨hi, hx, hm, hr⟩ := at_i h
    have ih := refBegins_l0 s l hl rest (i + 1) k hr (by simpa using hk)
    simp only [sieveref05_Begins.l0]
    rw [if_pos (by omega), if_pos (by omega), if_pos (by omega), hx, up hi hl, ih, refPrefix_eq]
    simp only [begins, Option.bind_some]
    by_cases h2 : pre (nm x) s.data.toList = true
    · rw [if_pos h2]; simp [nm] at h2; simp [h2]
    · rw [if_neg h2]; simp [nm] at h2; simp [h2]
theorem refBegins_eq (s : ByteArray) (k : Nat) (hk : 301 < k) : sieveref05_Begins.f k s = some (begins s.data.toList tab) := by
  have := refBegins_l0 s tab (by rw [tab_length]; omega) tab 0 k rfl (by rw [tab_length]; exact hk)
  exact this

/-! ### Same -/
theorem same_l0 (a b : List Int) (he : a.length = b.length) (hl : a.length ≤ 1000000) : ∀ (ra rb : List Int) (i k : Nat), a.drop i = ra → b.drop i = rb → ra.length < k →
    sieveref01_Same.l0 k a b (a.length : Int) (i : Int) = some (decide (ra = rb))
  | [], rb, i, k + 1, ha, hb, hk => by
    have hi : a.length ≤ i := by
      have := congrArg List.length ha
      simp at this
      omega
    simp only [sieveref01_Same.l0]
    rw [if_neg (by omega)]
    rw [List.drop_eq_nil_of_le (by omega)] at hb
    subst hb
    simp
  | x :: ra, [], i, k + 1, ha, hb, hk => by
    have h1 := congrArg List.length ha
    have h2 := congrArg List.length hb
    simp at h1 h2
    omega
  | x :: ra, y :: rb, i, k + 1, ha, hb, hk => by
    have h1 := congrArg List.length ha
    simp at h1
    have hi : i < a.length := by omega
    have ha' : a[i] = x ∧ a.drop (i + 1) = ra := by
      rw [List.drop_eq_getElem_cons hi] at ha
      injection ha with p q
      exact ⟨p, q⟩
    have hb' : b[i]'(by omega) = y ∧ b.drop (i + 1) = rb := by
      rw [List.drop_eq_getElem_cons (by omega)] at hb
      injection hb with p q
      exact ⟨p, q⟩
    have ih := same_l0 a b he hl ra rb (i + 1) k ha'.2 hb'.2 (by rw [List.length_cons] at hk; omega)
    simp only [sieveref01_Same.l0]
    have e1 : rd a (i : Int) = x := by rw [← ha'.1]; simp [rd, hi]
    have e2 : rd b (i : Int) = y := by rw [← hb'.1]; simp [rd, ← he, hi]
    rw [if_pos (by omega), if_pos (by omega), if_pos (by omega), if_pos (by omega), up hi hl, ih, e1, e2]
    by_cases h : x = y
    · rw [if_pos h]; simp [h]
    · rw [if_neg h]; simp [h]
theorem same_eq (a b : List Int) (hl : a.length ≤ 1000000) (k : Nat) (hk : a.length < k) : sieveref01_Same.f k a b = some (decide (a = b)) := by
  unfold sieveref01_Same.f
  by_cases h : a.length = b.length
  · rw [if_pos (by omega)]
    exact same_l0 a b h hl a b 0 k rfl rfl hk
  · rw [if_neg (by omega)]
    have : a ≠ b := fun e => h (by rw [e])
    simp [this]

/-! ### Longest -/
/-- Does a name stand here with its semicolon? -/
def semiAt (s : List UInt8) (x : S43) : Bool := s[(nm x).length]? == some 59
def step (s : List UInt8) (r : Nat × List Int) (x : S43) : Nat × List Int :=
  if pre s (nm x) then
    if semiAt s x then (if r.1 < (nm x).length + 1 then ((nm x).length + 1, says x) else r)
    else if x.f3 then (if r.1 < (nm x).length then ((nm x).length, says x) else r) else r
  else r
def longest (s : List UInt8) (r : Nat × List Int) : List S43 → Nat × List Int
  | [] => r
  | x :: l => longest s (step s r x) l
theorem nm_length (x : S43) : (nm x).length = x.f0.size := length_eq _
theorem semi_lt (s : ByteArray) (x : S43) (h : (x.f0.size : Int) < (s.size : Int)) : ((bt s (x.f0.size : Int)) == 59) = semiAt s.data.toList x := by
  have h1 : x.f0.size < s.size := by omega
  unfold semiAt bt
  rw [dif_pos (by simpa using h1), nm_length, List.getElem?_eq_getElem (by rw [length_eq]; exact h1)]
  have e : ∀ y : UInt8, ((y.toNat : Int) == 59) = (some y == some 59) := by
    intro y
    rw [Bool.eq_iff_iff]
    simp only [beq_iff_eq, Option.some.injEq]
    constructor
    · intro h; exact UInt8.toNat_inj.1 (by simpa using (by omega : y.toNat = 59))
    · rintro rfl; rfl
  exact e _
theorem semi_ge (s : ByteArray) (x : S43) (h : ¬ (x.f0.size : Int) < (s.size : Int)) : semiAt s.data.toList x = false := by
  unfold semiAt
  rw [nm_length, List.getElem?_eq_none (by rw [length_eq]; omega)]
  rfl
def out (r : Nat × List Int) : Int × List Int := ((r.1 : Int), r.2)
theorem wrapN {n : Nat} (h : n ≤ 1000000) : wrap64 ((n : Int) + 1) = ((n + 1 : Nat) : Int) := by
  rw [IntWalk.wrap64_in _ (by omega)]; rfl
theorem longest_j1 (s : ByteArray) (l : List S43) (hl : l.length ≤ 1000000) (r : Nat × List Int) (x : S43) (i k : Nat) (hx : x.f0.size ≤ 100) (hi : i < l.length) (hp : pre s.data.toList (nm x) = true)
    (rest : List S43) (ih : ∀ r, entity_Longest.l0 k s r.1 r.2 l (l.length : Int) ((i + 1 : Nat) : Int) = some (out (longest s.data.toList r rest))) :
    entity_Longest.j1 (k + 1) s r.1 r.2 (x.f0.size : Int) l (l.length : Int) (i : Int) (semiAt s.data.toList x) x.f0 x.f1 x.f2 x.f3 = some (out (longest s.data.toList (step s.data.toList r x) rest)) := by
  simp only [entity_Longest.j1]
  rw [wrapN (by omega : x.f0.size ≤ 1000000), up hi hl, says_eq]
  simp only [Option.bind_some]
  unfold step
  rw [hp, nm_length]
  by_cases h1 : semiAt s.data.toList x = true
  · rw [if_pos h1, if_pos rfl, if_pos h1]
    by_cases h2 : r.1 < x.f0.size + 1
    · rw [if_pos (by omega), if_pos h2]; exact ih (x.f0.size + 1, says x)
    · rw [if_neg (by omega), if_neg h2]; exact ih r
  · rw [if_neg h1, if_pos rfl, if_neg h1]
    by_cases h3 : x.f3 = true
    · rw [if_pos h3, if_pos h3]
      by_cases h2 : r.1 < x.f0.size
      · rw [if_pos (by omega), if_pos h2]; exact ih (x.f0.size, says x)
      · rw [if_neg (by omega), if_neg h2]; exact ih r
    · rw [if_neg h3, if_neg h3]; exact ih r
theorem longest_l0 (s : ByteArray) (l : List S43) (hs : Short l) (hl : l.length ≤ 1000000) : ∀ (rest : List S43) (r : Nat × List Int) (i k : Nat), l.drop i = rest → 2 * rest.length < k →
    entity_Longest.l0 k s r.1 r.2 l (l.length : Int) (i : Int) = some (out (longest s.data.toList r rest))
  | [], r, i, k + 1, h, _ => by
    have := at_end h
    simp only [entity_Longest.l0]
    rw [if_neg (by omega)]
    rfl
  | x :: rest, r, i, k + 1, h, hk => by
    obtain ⟨hi, hx, hm, hr⟩ := at_i h
    obtain ⟨k, rfl⟩ : ∃ m, k = m + 1 := ⟨k - 1, by simp at hk; omega⟩
    have hsz := hs x hm
    have e0 : entity_Longest.l0 (k + 1 + 1) s r.1 r.2 l (l.length : Int) (i : Int) = if pre s.data.toList (nm x) = true then entity_Longest.j1 (k + 1) s r.1 r.2 (x.f0.size : Int) l (l.length : Int) (i : Int) (semiAt s.data.toList x) x.f0 x.f1 x.f2 x.f3 else entity_Longest.l0 (k + 1) s r.1 r.2 l (l.length : Int) ((i + 1 : Nat) : Int) := by
      rw [entity_Longest.l0]
      rw [if_pos (by omega), if_pos (by omega), if_pos (by omega), hx, hasPrefix_eq, Option.bind_some, up hi hl, show x.f0.data.toList = nm x from rfl]
      by_cases hp : pre s.data.toList (nm x) = true
      · rw [if_pos hp, if_pos hp]
        by_cases h1 : (x.f0.size : Int) < (s.size : Int)
        · rw [if_pos h1, if_pos (by omega), semi_lt s x h1]
        · rw [if_neg h1, semi_ge s x h1]
      · rw [if_neg hp, if_neg hp]
    rw [e0]
    by_cases hp : pre s.data.toList (nm x) = true
    · rw [if_pos hp]
      exact longest_j1 s l hl r x i k hsz hi hp rest (fun r => longest_l0 s l hs hl rest r (i + 1) k hr (by simp at hk; omega))
    · rw [if_neg hp, longest_l0 s l hs hl rest r (i + 1) (k + 1) hr (by simp at hk; omega)]
      simp [longest, step, hp]
theorem longest_eq (s : ByteArray) (k : Nat) (hk : 602 < k) : entity_Longest.f k s = some (out (longest s.data.toList (0, []) tab)) :=
  longest_l0 s tab tab_short (by rw [tab_length]; omega) tab (0, []) 0 k rfl (by rw [tab_length]; exact hk)
/-- The reference's road through one name comes to the same step. -/
theorem refLongest_j1 (s : ByteArray) (l : List S43) (hl : l.length ≤ 1000000) (r : Nat × List Int) (x : S43) (i k : Nat) (hx : x.f0.size ≤ 100) (hi : i < l.length) (hp : pre s.data.toList (nm x) = true)
    (rest : List S43) (ih : ∀ r, sieveref05_Longest.l0 k s r.1 r.2 l (l.length : Int) ((i + 1 : Nat) : Int) = some (out (longest s.data.toList r rest))) :
    sieveref05_Longest.j1 (k + 1) s r.1 r.2 (x.f0.size : Int) l (l.length : Int) (i : Int) (x.f3 && decide (r.1 < x.f0.size)) x.f0 x.f1 x.f2 x.f3 = some (out (longest s.data.toList (step s.data.toList r x) rest)) := by
  simp only [sieveref05_Longest.j1]
  rw [wrapN (by omega : x.f0.size ≤ 1000000), up hi hl, refSays_eq]
  simp only [Option.bind_some]
  have hS : ∀ {A B C : Option (Int × List Int)}, (if (x.f0.size : Int) < (s.size : Int) then (if 0 ≤ (x.f0.size : Int) then (if bt s (x.f0.size : Int) = 59 then A else B) else C) else B) = if semiAt s.data.toList x = true then A else B := by
    intro A B C
    by_cases h1 : (x.f0.size : Int) < (s.size : Int)
    · rw [if_pos h1, if_pos (by omega), ← semi_lt s x h1]
      by_cases h2 : bt s (x.f0.size : Int) = 59
      · rw [if_pos h2, if_pos (by simpa using h2)]
      · rw [if_neg h2, if_neg (by simpa using h2)]
    · rw [if_neg h1, semi_ge s x h1]; rfl
  unfold step
  rw [hp, nm_length, if_pos rfl]
  by_cases h3 : (x.f3 && decide (r.1 < x.f0.size)) = true
  · rw [if_pos h3, hS]
    obtain ⟨h4, h5⟩ := Bool.and_eq_true_iff.1 h3
    have h5 := of_decide_eq_true h5
    by_cases h1 : semiAt s.data.toList x = true
    · rw [if_pos h1, if_pos h1, if_pos (by omega), if_pos (by omega)]; exact ih (x.f0.size + 1, says x)
    · rw [if_neg h1, if_neg h1, if_pos h4, if_pos h5]; exact ih (x.f0.size, says x)
  · rw [if_neg h3, hS]
    by_cases h1 : semiAt s.data.toList x = true
    · rw [if_pos h1, if_pos h1]
      by_cases h2 : r.1 < x.f0.size + 1
      · rw [if_pos (by omega), if_pos h2]; exact ih (x.f0.size + 1, says x)
      · rw [if_neg (by omega), if_neg h2]; exact ih r
    · rw [if_neg h1, if_neg h1]
      by_cases h4 : x.f3 = true
      · rw [if_pos h4, if_neg (fun h5 => h3 (by rw [h4, decide_eq_true h5]; rfl))]; exact ih r
      · rw [if_neg h4]; exact ih r
theorem refLongest_l0 (s : ByteArray) (l : List S43) (hs : Short l) (hl : l.length ≤ 1000000) : ∀ (rest : List S43) (r : Nat × List Int) (i k : Nat), l.drop i = rest → 2 * rest.length < k →
    sieveref05_Longest.l0 k s r.1 r.2 l (l.length : Int) (i : Int) = some (out (longest s.data.toList r rest))
  | [], r, i, k + 1, h, _ => by
    have := at_end h
    simp only [sieveref05_Longest.l0]
    rw [if_neg (by omega)]
    rfl
  | x :: rest, r, i, k + 1, h, hk => by
    obtain ⟨hi, hx, hm, hr⟩ := at_i h
    obtain ⟨k, rfl⟩ : ∃ m, k = m + 1 := ⟨k - 1, by simp at hk; omega⟩
    have hsz := hs x hm
    have e0 : sieveref05_Longest.l0 (k + 1 + 1) s r.1 r.2 l (l.length : Int) (i : Int) = if pre s.data.toList (nm x) = true then sieveref05_Longest.j1 (k + 1) s r.1 r.2 (x.f0.size : Int) l (l.length : Int) (i : Int) (x.f3 && decide (r.1 < x.f0.size)) x.f0 x.f1 x.f2 x.f3 else sieveref05_Longest.l0 (k + 1) s r.1 r.2 l (l.length : Int) ((i + 1 : Nat) : Int) := by
      rw [sieveref05_Longest.l0]
      rw [if_pos (by omega), if_pos (by omega), if_pos (by omega), hx, refPrefix_eq, Option.bind_some, up hi hl, show x.f0.data.toList = nm x from rfl]
      by_cases hp : pre s.data.toList (nm x) = true
      · rw [if_pos hp, if_pos hp]
        by_cases h1 : x.f3 = true
        · rw [if_pos h1]
          have e : decide ((x.f0.size : Int) > (r.1 : Int)) = decide (r.1 < x.f0.size) := decide_eq_decide.2 (by omega)
          rw [e, h1, Bool.true_and]
        · rw [if_neg h1]
          have h1' : x.f3 = false := by simpa using h1
          rw [h1', Bool.false_and]
      · rw [if_neg hp, if_neg hp]
    rw [e0]
    by_cases hp : pre s.data.toList (nm x) = true
    · rw [if_pos hp]
      exact refLongest_j1 s l hl r x i k hsz hi hp rest (fun r => refLongest_l0 s l hs hl rest r (i + 1) k hr (by simp at hk; omega))
    · rw [if_neg hp, refLongest_l0 s l hs hl rest r (i + 1) (k + 1) hr (by simp at hk; omega)]
      simp [longest, step, hp]
theorem refLongest_eq (s : ByteArray) (k : Nat) (hk : 602 < k) : sieveref05_Longest.f k s = some (out (longest s.data.toList (0, []) tab)) :=
  refLongest_l0 s tab tab_short (by rw [tab_length]; omega) tab (0, []) 0 k rfl (by rw [tab_length]; exact hk)

/-! ### the document's examples -/
theorem lives_eq (k : Nat) (hk : 602 < k) : sievelaw05_lives.f k = some true := by
  unfold sievelaw05_lives.f
  rw [longest_eq _ k hk, begins_eq _ k (by omega), begins_eq _ k (by omega)]
  have e1 : longest (⟨#[110, 111, 116, 105, 116, 59]⟩ : ByteArray).data.toList (0, []) tab = (3, [172]) := by decide +kernel
  have e2 : begins (⟨#[110, 111, 116, 105]⟩ : ByteArray).data.toList tab = true := by decide +kernel
  have e3 : begins (⟨#[110, 111, 116, 105, 110, 118, 97, 59]⟩ : ByteArray).data.toList tab = false := by decide +kernel
  rw [e1, e2, e3]
  rfl

/-! ### sizes of what is told -/
theorem says_length (x : S43) : (says x).length ≤ 2 := by unfold says; split <;> simp
theorem find_length (s : List UInt8) : ∀ l, (find s l).1.length ≤ 2
  | [] => by simp [find]
  | x :: l => by
    unfold find
    split
    · exact says_length x
    · exact find_length s l
theorem longest_length (s : List UInt8) : ∀ (l : List S43) (r : Nat × List Int), r.2.length ≤ 2 → (longest s r l).2.length ≤ 2
  | [], _, h => h
  | x :: l, r, h => by
    unfold longest
    refine longest_length s l _ ?_
    unfold step
    repeat' split
    all_goals first | exact h | exact says_length x
end Law
end Go.Proofs.Ytkinpihjjelcpaa.PE
