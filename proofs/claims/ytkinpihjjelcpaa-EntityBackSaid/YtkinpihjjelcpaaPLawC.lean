/- The plain law behind EntityBack: the least name by length, then by bytes, is found by both roads; and Find of it tells the runes. -/
import Derived.Test.YtkinpihjjelcpaaPLawB
import Derived.Test.YtkinpihjjelcpaaPEf15
import Derived.Test.YtkinpihjjelcpaaPEName
set_option linter.unusedSimpArgs false
namespace Go.Proofs.Ytkinpihjjelcpaa.PE
open Go.RowKit Go.Proofs.YtkinpihjjelcpaaW.PrintWords Go.Proofs.YtkinpihjjelcpaaW.PrintLast
namespace Law
open Tab (sorted swap ins outs goes nmOf saOf sa)

/-! ### the order of bytes -/
theorem less_irrefl : ∀ a : List UInt8, Op.bytesLess a a = false
  | [] => rfl
  | a :: x => by simp [Op.bytesLess, less_irrefl x]
theorem less_trans : ∀ a b c : List UInt8, Op.bytesLess a b = true → Op.bytesLess b c = true → Op.bytesLess a c = true
  | [], [], _, h, _ => by simp [Op.bytesLess] at h
  | [], _ :: _, [], _, h => by simp [Op.bytesLess] at h
  | [], _ :: _, _ :: _, _, _ => rfl
  | _ :: _, [], _, h, _ => by simp [Op.bytesLess] at h
  | _ :: _, _ :: _, [], _, h => by simp [Op.bytesLess] at h
  | a :: x, b :: y, c :: z, h, k => by
    simp only [Op.bytesLess, Bool.or_eq_true, Bool.and_eq_true, decide_eq_true_eq, beq_iff_eq] at h k ⊢
    rcases h with h | ⟨rfl, h⟩ <;> rcases k with k | ⟨rfl, k⟩
    · exact .inl (UInt8.lt_trans h k)
    · exact .inl h
    · exact .inl k
    · exact .inr ⟨rfl, less_trans x y z h k⟩
theorem less_total : ∀ a b : List UInt8, Op.bytesLess a b = true ∨ a = b ∨ Op.bytesLess b a = true
  | [], [] => .inr (.inl rfl)
  | [], _ :: _ => .inl rfl
  | _ :: _, [] => .inr (.inr rfl)
  | a :: x, b :: y => by
    simp only [Op.bytesLess, Bool.or_eq_true, Bool.and_eq_true, decide_eq_true_eq, beq_iff_eq]
    by_cases h1 : a < b
    · exact .inl (.inl h1)
    · by_cases h2 : b < a
      · exact .inr (.inr (.inl h2))
      · have e : a = b := by
          rw [UInt8.lt_iff_toNat_lt] at h1 h2
          exact UInt8.toNat_inj.1 (by omega)
        subst e
        rcases less_total x y with h | h | h
        · exact .inl (.inr ⟨rfl, h⟩)
        · exact .inr (.inl (by rw [h]))
        · exact .inr (.inr (.inr ⟨rfl, h⟩))
def lt2 (a b : ByteArray) : Prop := a.size < b.size ∨ (a.size = b.size ∧ Op.bytesLess a.toList b.toList = true)
instance (a b : ByteArray) : Decidable (lt2 a b) := inferInstanceAs (Decidable (_ ∨ _))
theorem lt2_trans {a b c : ByteArray} (h : lt2 a b) (k : lt2 b c) : lt2 a c := by
  unfold lt2 at *
  rcases h with h | ⟨h, h'⟩ <;> rcases k with k | ⟨k, k'⟩
  · exact .inl (by omega)
  · exact .inl (by omega)
  · exact .inl (by omega)
  · exact .inr ⟨by omega, less_trans _ _ _ h' k'⟩
theorem lt2_irrefl (a : ByteArray) : ¬ lt2 a a := by
  rintro (h | ⟨_, h⟩)
  · omega
  · rw [less_irrefl] at h; cases h
theorem bytes_ext {a b : ByteArray} (h : a.toList = b.toList) : a = b := by
  rw [toList_eq, toList_eq] at h
  cases a; cases b
  congr
  exact Array.toList_inj.1 h
theorem lt2_total (a b : ByteArray) : lt2 a b ∨ a = b ∨ lt2 b a := by
  unfold lt2
  rcases Nat.lt_trichotomy a.size b.size with h | h | h
  · exact .inl (.inl h)
  · rcases less_total a.toList b.toList with k | k | k
    · exact .inl (.inr ⟨h, k⟩)
    · exact .inr (.inl (bytes_ext k))
    · exact .inr (.inr (.inr ⟨h.symm, k⟩))
  · exact .inr (.inr (.inl h))
def pick (b z : ByteArray) : ByteArray := if b.size = 0 ∨ lt2 z b then z else b
theorem fold_pick : ∀ (C : List ByteArray) (b : ByteArray), b.size ≠ 0 → (∀ c, c ∈ C → c.size ≠ 0) → C.foldl pick b ∈ b :: C ∧ ∀ c, c ∈ b :: C → ¬ lt2 c (C.foldl pick b)
  | [], b, _, _ => ⟨List.mem_cons_self, fun c hc => by rw [List.mem_singleton.1 hc]; exact lt2_irrefl b⟩
  | z :: C, b, hb, hC => by
    have key : ∀ b' o, (b' = z ∧ o = b ∨ b' = b ∧ o = z) → ¬ lt2 o b' → C.foldl pick b' ∈ b :: z :: C ∧ ∀ c, c ∈ b :: z :: C → ¬ lt2 c (C.foldl pick b') := by
      intro b' o ho hn
      have hb' : b'.size ≠ 0 := by
        rcases ho with ⟨rfl, _⟩ | ⟨rfl, _⟩
        · exact hC _ List.mem_cons_self
        · exact hb
      obtain ⟨h1, h2⟩ := fold_pick C b' hb' (fun c hc => hC c (List.mem_cons_of_mem _ hc))
      have hmem : ∀ x, x ∈ b' :: C → x ∈ b :: z :: C := by
        intro x hx
        rcases List.mem_cons.1 hx with rfl | hx
        · rcases ho with ⟨rfl, _⟩ | ⟨rfl, _⟩
          · exact List.mem_cons_of_mem _ List.mem_cons_self
          · exact List.mem_cons_self
        · exact List.mem_cons_of_mem _ (List.mem_cons_of_mem _ hx)
      refine ⟨hmem _ h1, fun c hc => ?_⟩
      by_cases hc' : c ∈ b' :: C
      · exact h2 c hc'
      · have : c = o := by
          rcases List.mem_cons.1 hc with rfl | hc
          · rcases ho with ⟨_, rfl⟩ | ⟨rfl, _⟩
            · rfl
            · exact absurd List.mem_cons_self hc'
          · rcases List.mem_cons.1 hc with rfl | hc
            · rcases ho with ⟨rfl, _⟩ | ⟨_, rfl⟩
              · exact absurd List.mem_cons_self hc'
              · rfl
            · exact absurd (List.mem_cons_of_mem _ hc) hc'
        subst this
        intro hlt
        rcases lt2_total (C.foldl pick b') b' with h | h | h
        · exact hn (lt2_trans hlt h)
        · rw [h] at hlt; exact hn hlt
        · exact h2 b' List.mem_cons_self h
    show C.foldl pick (pick b z) ∈ _ ∧ _
    by_cases hz : lt2 z b
    · have e : pick b z = z := if_pos (.inr hz)
      have := key z b (.inl ⟨rfl, rfl⟩) (fun h => lt2_irrefl _ (lt2_trans h hz))
      simpa only [List.foldl_cons, e] using this
    · have e : pick b z = b := if_neg (fun h => h.elim hb hz)
      have := key b z (.inr ⟨rfl, rfl⟩) hz
      simpa only [List.foldl_cons, e] using this
def none_ : ByteArray := ⟨#[]⟩
theorem none_size : none_.size = 0 := rfl
theorem pick_spec (C : List ByteArray) (hC : ∀ c, c ∈ C → c.size ≠ 0) : (C = [] ∧ C.foldl pick none_ = none_) ∨ (C.foldl pick none_ ∈ C ∧ ∀ c, c ∈ C → ¬ lt2 c (C.foldl pick none_)) := by
  cases C with
  | nil => exact .inl ⟨rfl, rfl⟩
  | cons z C =>
    have e : pick none_ z = z := if_pos (.inl none_size)
    have := fold_pick C z (hC z List.mem_cons_self) (fun c hc => hC c (List.mem_cons_of_mem _ hc))
    exact .inr (by simpa only [List.foldl_cons, e] using this)
theorem pick_same (C D : List ByteArray) (hC : ∀ c, c ∈ C → c.size ≠ 0) (h : ∀ c, c ∈ C ↔ c ∈ D) : C.foldl pick none_ = D.foldl pick none_ := by
  have hD : ∀ c, c ∈ D → c.size ≠ 0 := fun c hc => hC c ((h c).2 hc)
  rcases pick_spec C hC with ⟨e, e'⟩ | ⟨h1, h2⟩ <;> rcases pick_spec D hD with ⟨f, f'⟩ | ⟨k1, k2⟩
  · rw [e', f']
  · rw [e] at h; exact absurd ((h _).2 k1) (by simp)
  · rw [f] at h; exact absurd ((h _).1 h1) (by simp)
  · rcases lt2_total (C.foldl pick none_) (D.foldl pick none_) with q | q | q
    · exact absurd q (k2 _ ((h _).1 h1))
    · exact q
    · exact absurd q (h2 _ ((h _).2 k1))
/-- By size alone, over names in order. -/
def pickS (b z : ByteArray) : ByteArray := if b.size = 0 ∨ z.size < b.size then z else b
def NotBefore (a b : ByteArray) : Prop := Op.bytesLess b.toList a.toList = false
theorem fold_pickS : ∀ (C : List ByteArray) (b : ByteArray), (b.size ≠ 0 → ∀ c, c ∈ C → NotBefore b c) → C.Pairwise NotBefore → (∀ c, c ∈ C → c.size ≠ 0) → C.foldl pickS b = C.foldl pick b
  | [], _, _, _, _ => rfl
  | z :: C, b, hb, hp, hC => by
    have e : pickS b z = pick b z := by
      unfold pickS pick
      by_cases h0 : b.size = 0
      · rw [if_pos (.inl h0), if_pos (.inl h0)]
      · by_cases h : z.size < b.size
        · rw [if_pos (.inr h), if_pos (.inr (.inl h))]
        · rw [if_neg (fun q => q.elim h0 h), if_neg]
          rintro (q | q | ⟨_, q⟩)
          · exact h0 q
          · exact h q
          · have := hb h0 z List.mem_cons_self
            unfold NotBefore at this
            rw [this] at q; cases q
    show C.foldl pickS (pickS b z) = C.foldl pick (pick b z)
    rw [e]
    rw [List.pairwise_cons] at hp
    refine fold_pickS C (pick b z) (fun _ c hc => ?_) hp.2 (fun c hc => hC c (List.mem_cons_of_mem _ hc))
    by_cases h : b.size = 0 ∨ lt2 z b
    · rw [show pick b z = z from if_pos h]; exact hp.1 c hc
    · rw [show pick b z = b from if_neg h]; exact hb (fun q => h (.inl q)) c (List.mem_cons_of_mem _ hc)

/-! ### the program's road -/
def semiName (x : S43) : ByteArray := x.f0 ++ ⟨#[59]⟩
theorem semi_size (x : S43) : (semiName x).size = x.f0.size + 1 := by
  unfold semiName
  rw [ByteArray.size_append]
  rfl
def stepI (l : List Int) (b : ByteArray) (x : S43) : ByteArray := if says x = l then pick b (semiName x) else b
def candI (l : List Int) : List ByteArray := (tab.filter fun x => decide (says x = l)).map semiName
theorem fold_stepI (l : List Int) : ∀ (T : List S43) (b : ByteArray), T.foldl (stepI l) b = ((T.filter fun x => decide (says x = l)).map semiName).foldl pick b
  | [], _ => rfl
  | x :: T, b => by
    rw [List.foldl_cons, fold_stepI l T, List.filter_cons]
    by_cases h : says x = l
    · rw [if_pos (by simpa using h)]
      simp [stepI, h]
    · rw [if_neg (by simpa using h)]
      simp [stepI, h]
theorem size_toList (b : ByteArray) : b.toList = [] ↔ b.size = 0 := by
  rw [toList_eq, ← List.length_eq_zero_iff, length_eq]
theorem equal_l0 (a b : List Int) (he : a.length = b.length) (hl : a.length ≤ 1000000) : ∀ (ra rb : List Int) (i k : Nat), a.drop i = ra → b.drop i = rb → ra.length < k →
    slices_Equal_rune_rune.l0 k a b (a.length : Int) (i : Int) = some (decide (ra = rb))
  | [], rb, i, k + 1, ha, hb, hk => by
    have hi : a.length ≤ i := by
      have := congrArg List.length ha
      simp at this
      omega
    simp only [slices_Equal_rune_rune.l0]
    rw [if_neg (by omega)]
    rw [List.drop_eq_nil_of_le (by omega)] at hb
    subst hb
    simp
  | x :: ra, [], i, k + 1, ha, hb, hk => by
    have h1 := congrArg List.length ha
    have h2 := congrArg List.length hb
    simp at h1 h2
    omega
  | x :: ra, y :: rb, i, k + 1, ha, hb, hk => by
    have h1 := congrArg List.length ha
    simp at h1
    have hi : i < a.length := by omega
    have ha' : a[i] = x ∧ a.drop (i + 1) = ra := by
      rw [List.drop_eq_getElem_cons hi] at ha
      injection ha with p q
      exact ⟨p, q⟩
    have hb' : b[i]'(by omega) = y ∧ b.drop (i + 1) = rb := by
      rw [List.drop_eq_getElem_cons (by omega)] at hb
      injection hb with p q
      exact ⟨p, q⟩
    have ih := equal_l0 a b he hl ra rb (i + 1) k ha'.2 hb'.2 (by rw [List.length_cons] at hk; omega)
    simp only [slices_Equal_rune_rune.l0]
    have e1 : rd a (i : Int) = x := by rw [← ha'.1]; simp [rd, hi]
    have e2 : rd b (i : Int) = y := by rw [← hb'.1]; simp [rd, ← he, hi]
    rw [if_pos (by omega), if_pos (by omega), if_pos (by omega), if_pos (by omega), up hi hl, ih, e1, e2]
    by_cases h : x = y
    · rw [if_pos h]; simp [h]
    · rw [if_neg h]; simp [h]
theorem equal_eq (a b : List Int) (hl : a.length ≤ 1000000) (k : Nat) (hk : a.length < k) : slices_Equal_rune_rune.f k a b = some (decide (a = b)) := by
  unfold slices_Equal_rune_rune.f
  by_cases h : a.length = b.length
  · rw [if_pos (by omega)]
    exact equal_l0 a b h hl a b 0 k rfl rfl hk
  · rw [if_neg (by omega)]
    have : a ≠ b := fun e => h (by rw [e])
    simp [this]
theorem name_l0 (l : List Int) (T : List S43) (hs : Short T) (hl : T.length ≤ 1000000) : ∀ (rest : List S43) (b : ByteArray) (i k : Nat), T.drop i = rest → rest.length + 5 < k →
    entity_Name.l0 k l b T (T.length : Int) (i : Int) = some (rest.foldl (stepI l) b, (rest.foldl (stepI l) b).toList != [])
  | [], b, i, k + 1, h, _ => by
    have := at_end h
    simp only [entity_Name.l0]
    rw [if_neg (by omega)]
    rfl
  | x :: rest, b, i, k + 1, h, hk => by
    obtain ⟨hi, hx, hm, hr⟩ := at_i h
    have ih := fun b => name_l0 l T hs hl rest b (i + 1) k hr (by simp at hk; omega)
    have hsz := hs x hm
    have e0 : entity_Name.l0 (k + 1) l b T (T.length : Int) (i : Int) = entity_Name.l0 k l (stepI l b x) T (T.length : Int) ((i + 1 : Nat) : Int) := by
      simp only [entity_Name.l0]
      rw [if_pos (by omega), if_pos (by omega), if_pos (by omega), hx, if_pos (by omega), says_eq, up hi hl]
      simp only [Option.bind_some]
      rw [equal_eq (says x) l (by have := says_length x; omega) k (by have := says_length x; simp at hk; omega)]
      simp only [Option.bind_some]
      unfold stepI
      by_cases h1 : says x = l
      · rw [if_pos (by simpa using h1), if_pos h1]
        unfold pick
        show (if b.toList = [] then entity_Name.l0 k l (semiName x) T (T.length : Int) ((i + 1 : Nat) : Int) else if ((semiName x).size : Int) < (b.size : Int) then entity_Name.l0 k l (semiName x) T (T.length : Int) ((i + 1 : Nat) : Int) else if ((semiName x).size : Int) = (b.size : Int) then (if Op.bytesLess (semiName x).toList b.toList = true then entity_Name.l0 k l (semiName x) T (T.length : Int) ((i + 1 : Nat) : Int) else entity_Name.l0 k l b T (T.length : Int) ((i + 1 : Nat) : Int)) else entity_Name.l0 k l b T (T.length : Int) ((i + 1 : Nat) : Int)) = _
        by_cases h2 : b.size = 0
        · rw [if_pos ((size_toList b).2 h2), if_pos (.inl h2)]
        · rw [if_neg (fun h => h2 ((size_toList b).1 h))]
          by_cases h3 : (semiName x).size < b.size
          · rw [if_pos (by omega), if_pos (.inr (.inl h3))]
          · rw [if_neg (by omega)]
            by_cases h4 : (semiName x).size = b.size
            · rw [if_pos (by omega)]
              by_cases h5 : Op.bytesLess (semiName x).toList b.toList = true
              · rw [if_pos h5, if_pos (.inr (.inr ⟨h4, h5⟩))]
              · rw [if_neg h5, if_neg (fun q => q.elim h2 (fun q => q.elim h3 (fun q => h5 q.2)))]
            · rw [if_neg (by omega), if_neg (fun q => q.elim h2 (fun q => q.elim h3 (fun q => h4 q.1)))]
      · rw [if_neg (by simpa using h1), if_neg h1]
    rw [e0, ih]
    rfl
theorem name_eq (l : List Int) (k : Nat) (hk : 306 < k) : entity_Name.f k l = some ((candI l).foldl pick none_, ((candI l).foldl pick none_).toList != []) := by
  have := name_l0 l tab tab_short (by rw [tab_length]; omega) tab none_ 0 k rfl (by rw [tab_length]; omega)
  rw [fold_stepI] at this
  exact this

/-! ### the reference's road -/
open RefName (last) in
def candR (l : List Int) : List ByteArray := (sorted.filter fun z => decide (last z.1 = 59 ∧ l = z.2)).map fun z => z.1
open RefName (last) in
theorem fold_step (l : List Int) : ∀ (Z : List (ByteArray × List Int)) (b : ByteArray), Z.foldl (RefName.step l) b = ((Z.filter fun z => decide (last z.1 = 59 ∧ l = z.2)).map fun z => z.1).foldl pickS b
  | [], _ => rfl
  | z :: Z, b => by
    rw [List.foldl_cons, fold_step l Z, List.filter_cons]
    by_cases h : last z.1 = 59 ∧ l = z.2
    · rw [if_pos (by simpa using h)]
      simp only [List.map_cons, List.foldl_cons]
      congr 1
      unfold RefName.step pickS
      rw [if_pos ⟨h.1, by rw [h.2]⟩]
      by_cases h2 : b.size = 0 ∨ z.1.size < b.size
      · rw [if_pos ⟨h.2, h2⟩, if_pos h2]
      · rw [if_neg (fun q => h2 q.2), if_neg h2]
    · rw [if_neg (by simpa using h)]
      congr 1
      unfold RefName.step
      by_cases h1 : last z.1 = 59 ∧ z.2.length = l.length
      · rw [if_pos h1, if_neg (fun q => h ⟨h1.1, q.1⟩)]
      · rw [if_neg h1]
def adj : List ByteArray → Bool
  | a :: b :: l => !(Op.bytesLess b.toList a.toList) && adj (b :: l)
  | _ => true
theorem notBefore_trans {a b c : ByteArray} (h : NotBefore a b) (k : NotBefore b c) : NotBefore a c := by
  unfold NotBefore at *
  cases hc : Op.bytesLess c.toList a.toList with
  | false => rfl
  | true =>
    rcases less_total a.toList b.toList with q | q | q
    · rw [less_trans _ _ _ hc q] at k; cases k
    · rw [← q, hc] at k; cases k
    · rw [q] at h; cases h
theorem adj_pairwise : ∀ l : List ByteArray, adj l = true → l.Pairwise NotBefore
  | [], _ => List.Pairwise.nil
  | [a], _ => List.pairwise_singleton _ _
  | a :: b :: l, h => by
    simp only [adj, Bool.and_eq_true, Bool.not_eq_true'] at h
    have ih := adj_pairwise (b :: l) h.2
    refine List.pairwise_cons.2 ⟨fun c hc => ?_, ih⟩
    rcases List.mem_cons.1 hc with rfl | hc
    · exact h.1
    · exact notBefore_trans h.1 ((List.pairwise_cons.1 ih).1 c hc)
theorem sorted_pairwise : (sorted.map fun z => z.1).Pairwise NotBefore := adj_pairwise _ (by decide +kernel)
theorem swap_perm {α : Type} (Z : List (ByteArray × α)) (k : Nat) : (swap Z k).Perm Z := by
  unfold swap
  split
  · rename_i a b ha hb
    obtain ⟨h1, e1⟩ := List.getElem?_eq_some_iff.1 ha
    obtain ⟨h2, e2⟩ := List.getElem?_eq_some_iff.1 hb
    have := @List.set_set_perm _ Z k (k - 1) h1 h2
    rw [e1, e2] at this
    exact this
  · exact List.Perm.refl _
theorem ins_perm {α : Type} : ∀ (k : Nat) (Z : List (ByteArray × α)), (ins k Z).Perm Z
  | 0, _ => List.Perm.refl _
  | k + 1, Z => by
    unfold ins
    split
    · exact (ins_perm k _).trans (swap_perm Z (k + 1))
    · exact List.Perm.refl _
theorem outs_perm {α : Type} : ∀ (d i : Nat) (Z : List (ByteArray × α)), (outs d i Z).Perm Z
  | 0, _, _ => List.Perm.refl _
  | d + 1, i, Z => (outs_perm d (i + 1) (ins i Z)).trans (ins_perm i Z)
theorem zip_flat : ∀ T : List S43, (T.flatMap nmOf).zip (T.flatMap saOf) = T.flatMap fun x => (nmOf x).zip (saOf x)
  | [] => rfl
  | x :: T => by
    simp only [List.flatMap_cons]
    rw [List.zip_append (by unfold nmOf saOf; split <;> rfl), zip_flat T]
theorem mem_sorted (z : ByteArray × List Int) : z ∈ sorted ↔ ∃ x, x ∈ tab ∧ z.2 = says x ∧ (z.1 = semiName x ∨ (x.f3 = true ∧ z.1 = x.f0)) := by
  unfold sorted
  rw [(outs_perm _ _ _).mem_iff, zip_flat, List.mem_flatMap]
  constructor
  · rintro ⟨x, hx, hz⟩
    refine ⟨x, hx, ?_⟩
    unfold nmOf saOf at hz
    split at hz
    · rename_i hb
      simp only [List.zip_cons_cons, List.zip_nil_right, List.mem_cons, List.not_mem_nil, or_false] at hz
      rcases hz with rfl | rfl
      · exact ⟨rfl, .inr ⟨hb, rfl⟩⟩
      · exact ⟨rfl, .inl rfl⟩
    · simp only [List.zip_cons_cons, List.zip_nil_right, List.mem_cons, List.not_mem_nil, or_false] at hz
      subst hz
      exact ⟨rfl, .inl rfl⟩
  · rintro ⟨x, hx, h2, h1⟩
    obtain ⟨n, v⟩ := z
    dsimp only at h1 h2
    refine ⟨x, hx, ?_⟩
    unfold nmOf saOf
    rcases h1 with h1 | ⟨hb, h1⟩
    · subst h1 h2
      split
      · exact List.mem_cons_of_mem _ List.mem_cons_self
      · exact List.mem_cons_self
    · subst h1 h2
      rw [if_pos hb, if_pos hb]
      exact List.mem_cons_self
theorem last_semi (x : S43) : RefName.last (semiName x) = 59 := by
  unfold RefName.last semiName
  rw [ByteArray.data_append, Array.toList_append]
  simp
theorem last_bare (x : S43) (hx : x ∈ tab) : RefName.last x.f0 ≠ 59 := by
  unfold RefName.last
  intro h
  have hp := tab_plain x hx
  cases hl : x.f0.data.toList.getLast? with
  | none => rw [hl] at h; cases h
  | some c =>
    rw [hl] at h
    have : c = 59 := UInt8.toNat_inj.1 (by simpa using h)
    subst this
    exact hp.1 (List.mem_of_getLast? hl)
theorem cand_same (l : List Int) (c : ByteArray) : c ∈ candI l ↔ c ∈ candR l := by
  unfold candI candR
  simp only [List.mem_map, List.mem_filter, decide_eq_true_eq]
  constructor
  · rintro ⟨x, ⟨hx, h⟩, rfl⟩
    exact ⟨(semiName x, says x), ⟨(mem_sorted _).2 ⟨x, hx, rfl, .inl rfl⟩, last_semi x, h.symm⟩, rfl⟩
  · rintro ⟨z, ⟨hz, h59, hl⟩, rfl⟩
    obtain ⟨x, hx, h2, h1 | ⟨_, h1⟩⟩ := (mem_sorted z).1 hz
    · exact ⟨x, ⟨hx, by rw [hl, h2]⟩, h1.symm⟩
    · rw [h1] at h59; exact absurd h59 (last_bare x hx)
theorem candI_size (l : List Int) (c : ByteArray) (h : c ∈ candI l) : c.size ≠ 0 := by
  unfold candI at h
  obtain ⟨x, _, rfl⟩ := List.mem_map.1 h
  rw [semi_size]; omega
theorem best_eq (l : List Int) : RefName.best l sorted = (candI l).foldl pick none_ := by
  unfold RefName.best
  rw [fold_step]
  have hp : (candR l).Pairwise NotBefore := by
    have hsub : (candR l).Sublist (sorted.map fun z => z.1) := List.Sublist.map _ (List.filter_sublist)
    exact sorted_pairwise.sublist hsub
  have h1 := fold_pickS (candR l) none_ (fun h => absurd rfl h) hp (fun c hc => candI_size l c ((cand_same l c).2 hc))
  have h2 := pick_same (candI l) (candR l) (candI_size l) (cand_same l)
  rw [h2, ← h1]
  rfl
/-- Find of the name tells the runes; of no name nothing. -/
theorem back (l : List Int) : find ((candI l).foldl pick none_).data.toList tab = (if ((candI l).foldl pick none_).size = 0 then ([], false) else (l, true)) := by
  rcases pick_spec (candI l) (candI_size l) with ⟨_, e⟩ | ⟨h, _⟩
  · rw [e, if_pos none_size]
    refine find_none _ tab (fun y hy => ?_)
    have := (tab_plain y hy).2
    cases hi : isIt none_.data.toList y with
    | false => rfl
    | true =>
      rw [isIt_iff] at hi
      rcases hi with hi | ⟨_, hi⟩
      · exact absurd hi.symm (by simp [none_])
      · exact absurd hi.symm this
  · rw [if_neg (candI_size l _ h)]
    generalize (candI l).foldl pick none_ = c at h
    unfold candI at h
    obtain ⟨x, hx, rfl⟩ := List.mem_map.1 h
    obtain ⟨hx, hl⟩ := List.mem_filter.1 hx
    have hl : says x = l := by simpa using hl
    rw [find_tab _ x hx, hl]
    rw [isIt_iff]
    left
    unfold semiName nm
    rw [ByteArray.data_append, Array.toList_append]
end Law
end Go.Proofs.Ytkinpihjjelcpaa.PE
