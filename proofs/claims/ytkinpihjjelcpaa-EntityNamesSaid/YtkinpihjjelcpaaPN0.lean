/- EntityNames: the tree of all names in memory: how a node's map reads; the tree's nodes by their paths. -/
import Derived.Test.YtkinpihjjelcpaaPEx0
import Derived.Maps.OwnIn
import Derived.Maps.OwnOps
import Derived.Maps.Views
namespace Go.Proofs.Ytkinpihjjelcpaa.PE
open Go.RowKit Go.Proofs.YtkinpihjjelcpaaW.PrintWords Go.Proofs.YtkinpihjjelcpaaW.PrintLast Go.Proofs.YtkinpihjjelcpaaW.PrintMore
set_option linter.unusedSimpArgs false
set_option linter.unusedVariables false
namespace Tr

theorem underlying5 : Try.prog.underlying 5 = some (.int .u8) := by kernel_rfl
theorem underlying50 : Try.prog.underlying 50 = some (.map 5 48) := by kernel_rfl
theorem zero48 (w : World) : (zeroValue 48).run Try.prog w = .ok (.pointer none) w := by kernel_rfl

/-- How a node's pointer reads. -/
def code : Option Nat → Int
  | none => -1
  | some b => b
def ptr : Option Nat → Value
  | none => .pointer none
  | some b => .pointer (some ⟨b, 0, none⟩)
open Classical in
noncomputable def R (v : Value) : Option (DataW Unit × List MemPlace) :=
  if h : ∃ o, v = ptr o then some (.lit (.int .i64 (code h.choose)), []) else none
theorem ptr_inj {a b : Option Nat} (h : ptr a = ptr b) : a = b := by
  cases a <;> cases b <;> simp_all [ptr]
theorem code_inj {a b : Option Nat} (h : code a = code b) : a = b := by
  cases a <;> cases b <;> simp_all [code] <;> omega
theorem R_ptr (o : Option Nat) : R (ptr o) = some (.lit (.int .i64 (code o)), []) := by
  have h : ∃ o', ptr o = ptr o' := ⟨o, rfl⟩
  unfold R
  rw [dif_pos h]
  rw [← ptr_inj h.choose_spec]
theorem R_inv {v : Value} {o : Option Nat} {ps : List MemPlace} (h : R v = some (.lit (.int .i64 (code o)), ps)) : v = ptr o := by
  unfold R at h
  split at h
  · rename_i hx
    simp only [Option.some.injEq, Prod.mk.injEq, DataW.lit.injEq, Lit.int.injEq] at h
    rw [← code_inj h.1.2]
    exact hx.choose_spec
  · cases h

/-- The map in block m holds, at each byte c, the pointer to node f c. -/
def mapFn (w : World) (m n : Nat) (f : Nat → Option Nat) : Prop :=
  ∃ D : DataW Unit, w.ownsMap Try.prog 5 R m n D ∧ Maps.IsMap D ∧ ∀ c : Nat, D.atKey (.int .u8 c) (.lit (.int .i64 (-1))) = .lit (.int .i64 (code (f c)))
theorem mapFn_made (w : World) : mapFn (w.alloc (.map #[] 0)) w.heap.size 0 (fun _ => none) :=
  ⟨.map [], World.ownsMap_made w _ _ _, ⟨_, rfl⟩, fun _ => rfl⟩
variable {w w' : World} {m n : Nat} {f : Nat → Option Nat}
theorem mapFn.lt (h : mapFn w m n f) : m < w.heap.size := h.choose_spec.1.lt
theorem mapFn.mono (h : mapFn w m n f) {n' : Nat} (hn : n ≤ n') : mapFn w m n' f := by
  obtain ⟨D, h1, h2, h3⟩ := h
  exact ⟨D, h1.mono hn, h2, h3⟩
theorem mapFn.kept {row : Option Nat} (h : mapFn w m n f) (hg : w.grownBy w' row) (hne : some m ≠ row) : mapFn w' m n f := by
  obtain ⟨D, h1, h2, h3⟩ := h
  exact ⟨D, h1.kept hg hne, h2, h3⟩
theorem mapFn.at_block (h : mapFn w m n f) (hb : w'.heap[m]? = w.heap[m]?) : mapFn w' m n f := by
  obtain ⟨D, ⟨es, ck, hh, F, hs, hD⟩, h2, h3⟩ := h
  exact ⟨D, ⟨es, ck, hb.trans hh, F, hs, hD⟩, h2, h3⟩
theorem mapFn.isMap (h : mapFn w m n f) : ∃ es ck, w.heap[m]? = some (.map es ck) := by
  obtain ⟨D, ⟨es, ck, hh, F, hs, hD⟩, h2, h3⟩ := h
  exact ⟨es, ck, hh⟩
theorem wf_byte {c : Nat} (hc : c < 256) : (Lit.int .u8 (c : Int)).wf = true := by
  have e1 : IntKind.u8.min = 0 := rfl
  have e2 : IntKind.u8.max = 255 := rfl
  simp only [Lit.wf, e1, e2, Bool.and_eq_true, decide_eq_true_eq]; omega
theorem mapFn.lookup (h : mapFn w m n f) {c : Nat} (hc : c < 256) : (Instr.lookup 50 (.map (some m)) (.int .u8 c) false).run Try.prog w = .ok (ptr (f c)) w := by
  obtain ⟨D, h1, h2, h3⟩ := h
  obtain ⟨v, ps, hr, hv⟩ := h1.lookup (Maps.int_keyed underlying5) underlying50 (zero48 w) (R_ptr none) (Maps.keyOf_int_mk underlying5 (wf_byte hc))
  rw [show code none = -1 from rfl, h3 c] at hv
  rw [hr, R_inv hv]
theorem mapFn.update (h : mapFn w m n f) {c : Nat} (hc : c < 256) (hn : n < maxLen) (b : Nat) : ∃ w', (Instr.mapUpdate 50 (.map (some m)) (.int .u8 c) (.pointer (some ⟨b, 0, none⟩))).run Try.prog w = .ok () w' ∧
    mapFn w' m (n + 1) (fun x => if x = c then some b else f x) ∧ w.grownBy w' (some m) := by
  obtain ⟨D, h1, h2, h3⟩ := h
  obtain ⟨w', hr, ho, hg⟩ := h1.update (Maps.int_keyed underlying5) underlying50 hn (Maps.keyOf_int_mk underlying5 (wf_byte hc)) (R_ptr (some b))
  refine ⟨w', hr, ⟨_, ho, h2.put _ _, fun x => ?_⟩, hg⟩
  by_cases hx : x = c
  · subst hx
    rw [Maps.atKey_put_same h2 (by trivial)]
    simp
  · rw [Maps.atKey_put_other (by simp only [ne_eq, Lit.int.injEq, true_and]; omega), h3 x]
    simp [hx]

/-! ### the tree in memory -/
/-- An object that is no part of a tree. -/
def Else : Obj → Prop
  | .map _ _ => False
  | .cells _ t _ => t ≠ 52
  | _ => True
/-- What lay below n₀ lies, and what is no part of a tree. -/
structure Fr (n₀ : Nat) (w w' : World) : Prop where
  os : w'.os = w.os
  tape : w'.tape = w.tape
  output : w'.output = w.output
  size : w.heap.size ≤ w'.heap.size
  same : ∀ (i : Nat) (o : Obj), w.heap[i]? = some o → (i < n₀ ∨ Else o) → w'.heap[i]? = some o
theorem Fr.refl (n₀ : Nat) (w : World) : Fr n₀ w w := ⟨rfl, rfl, rfl, Nat.le_refl _, fun _ _ h _ => h⟩
theorem Fr.trans {n₀ : Nat} {a b c : World} (h : Fr n₀ a b) (k : Fr n₀ b c) : Fr n₀ a c :=
  ⟨k.os.trans h.os, k.tape.trans h.tape, k.output.trans h.output, Nat.le_trans h.size k.size, fun i o hi ho => k.same i o (h.same i o hi ho) ho⟩
theorem Fr.grown {n₀ : Nat} {row : Option Nat} (hg : w.grownBy w' row) (hr : ∀ r, row = some r → n₀ ≤ r ∧ ∀ o, w.heap[r]? = some o → ¬ Else o) : Fr n₀ w w' :=
  ⟨hg.os, hg.tape, hg.output, hg.size, fun i o hi ho => (hg.block i (Array.getElem?_eq_some_iff.1 hi).1 (fun e => by
    obtain ⟨h1, h2⟩ := hr i e.symm
    rcases ho with ho | ho
    · omega
    · exact h2 o hi ho)).trans hi⟩
theorem Fr.below {n₀ : Nat} (h : Fr n₀ w w') (hn : n₀ ≤ w.heap.size) : Below n₀ w w' :=
  ⟨h.os, h.tape, h.output, h.size, fun k hk => by
    have e : w.heap[k]? = some w.heap[k] := Array.getElem?_eq_getElem (by omega)
    rw [h.same k _ e (.inl hk), e]⟩

structure Trie (w : World) (n₀ K : Nat) (Pf Nm : List Nat → Bool) (blk mpb : List Nat → Nat) : Prop where
  root : Pf [] = true
  closed : ∀ p c, Pf (p ++ [c]) = true → Pf p = true
  named : ∀ p, Nm p = true → Pf p = true
  node : ∀ p, Pf p = true → w.heap[blk p]? = some (.cells #[.map (some (mpb p)), .bool (Nm p)] 52 (0, 0))
  kids : ∀ p, Pf p = true → mapFn w (mpb p) K (fun c => if Pf (p ++ [c]) then some (blk (p ++ [c])) else none)
  ge : ∀ p, Pf p = true → n₀ ≤ blk p ∧ n₀ ≤ mpb p
  injB : ∀ p q, Pf p = true → Pf q = true → blk p = blk q → p = q
  injM : ∀ p q, Pf p = true → Pf q = true → mpb p = mpb q → p = q
variable {n₀ K : Nat} {Pf Nm : List Nat → Bool} {blk mpb : List Nat → Nat}
/-- A tree lies on where its blocks lie. -/
theorem Trie.same (h : Trie w n₀ K Pf Nm blk mpb) (hs : ∀ (i : Nat) (o : Obj), w.heap[i]? = some o → ¬ Else o → w'.heap[i]? = some o) : Trie w' n₀ K Pf Nm blk mpb :=
  { h with
    node := fun p hp => hs _ _ (h.node p hp) (by simp [Else])
    kids := fun p hp => by
      obtain ⟨es, ck, hm⟩ := (h.kids p hp).isMap
      exact (h.kids p hp).at_block ((hs _ _ hm (by simp [Else])).trans hm.symm) }
theorem Trie.grown {row : Option Nat} (h : Trie w n₀ K Pf Nm blk mpb) (hg : w.grownBy w' row) (hr : ∀ r, row = some r → ∀ o, w.heap[r]? = some o → Else o) : Trie w' n₀ K Pf Nm blk mpb :=
  h.same fun i o hi ho => (hg.block i (Array.getElem?_eq_some_iff.1 hi).1 (fun e => ho (hr i e.symm o hi))).trans hi
theorem Trie.alloc (h : Trie w n₀ K Pf Nm blk mpb) (o : Obj) : Trie (w.alloc o) n₀ K Pf Nm blk mpb := h.grown (World.grownBy_alloc w o none) (fun r e => by cases e)
theorem Trie.drewN (h : Trie w n₀ K Pf Nm blk mpb) (m : Nat) : Trie (w.drewN m) n₀ K Pf Nm blk mpb := h.same fun i o hi _ => hi
theorem Trie.kmono (h : Trie w n₀ K Pf Nm blk mpb) {K' : Nat} (hk : K ≤ K') : Trie w n₀ K' Pf Nm blk mpb := { h with kids := fun p hp => (h.kids p hp).mono hk }
theorem Trie.cell0 (h : Trie w n₀ K Pf Nm blk mpb) {p : List Nat} (hp : Pf p = true) : w.cell? ⟨blk p, 0, none⟩ = some (.map (some (mpb p))) := by simp [World.cell?, h.node p hp]
theorem Trie.cell1 (h : Trie w n₀ K Pf Nm blk mpb) {p : List Nat} (hp : Pf p = true) : w.cell? ⟨blk p, 1, none⟩ = some (.bool (Nm p)) := by simp [World.cell?, h.node p hp]
theorem Trie.froz (h : Trie w n₀ K Pf Nm blk mpb) {p : List Nat} (hp : Pf p = true) (i : Nat) : w.frozen? ⟨blk p, i, none⟩ = false := by simp [World.frozen?, h.node p hp]
theorem Trie.look (h : Trie w n₀ K Pf Nm blk mpb) {p : List Nat} (hp : Pf p = true) {c : Nat} (hc : c < 256) (k : Nat) :
    (Instr.lookup 50 (.map (some (mpb p))) (.int .u8 c) false).run Try.prog (w.drewN k) = .ok (ptr (if Pf (p ++ [c]) then some (blk (p ++ [c])) else none)) (w.drewN k) := ((h.drewN k).kids p hp).lookup hc
theorem Trie.ltB (h : Trie w n₀ K Pf Nm blk mpb) {p : List Nat} (hp : Pf p = true) : blk p < w.heap.size := (Array.getElem?_eq_some_iff.1 (h.node p hp)).1
theorem Trie.ltM (h : Trie w n₀ K Pf Nm blk mpb) {p : List Nat} (hp : Pf p = true) : mpb p < w.heap.size := (h.kids p hp).lt

/-- A new tree. -/
theorem Trie.made (w : World) (hn : n₀ ≤ w.heap.size) : Trie ((w.alloc (.map #[] 0)).alloc (.cells #[.map (some w.heap.size), .bool false] 52)) n₀ 0 (fun p => p.isEmpty) (fun _ => false) (fun _ => w.heap.size + 1) (fun _ => w.heap.size) where
  root := rfl
  closed := fun p c h => by simp at h
  named := fun p h => by simp at h
  node := fun p hp => by
    have := heap_alloc_new (w.alloc (.map #[] 0)) (.cells #[.map (some w.heap.size), .bool false] 52)
    rwa [World.size_alloc] at this
  kids := fun p hp => by
    have h := (mapFn_made w).kept (World.grownBy_alloc _ (.cells #[.map (some w.heap.size), .bool false] 52) none) (by simp)
    simpa using h
  ge := fun p hp => ⟨by omega, hn⟩
  injB := fun p q hp hq _ => by rw [List.isEmpty_iff.1 hp, List.isEmpty_iff.1 hq]
  injM := fun p q hp hq _ => by rw [List.isEmpty_iff.1 hp, List.isEmpty_iff.1 hq]

/-- A new child of node p at c. -/
theorem Trie.child (h : Trie w n₀ K Pf Nm blk mpb) {wA : World} (hA : w.grownBy wA none) {p : List Nat} (hp : Pf p = true) {c : Nat} (hc : Pf (p ++ [c]) = false) {bm bs : Nat} (hbm : w.heap.size ≤ bm) (hbs : w.heap.size ≤ bs)
    (hm : mapFn wA bm 0 (fun _ => none)) (hs : wA.heap[bs]? = some (.cells #[.map (some bm), .bool false] 52 (0, 0)))
    (hg : wA.grownBy w' (some (mpb p))) (hu : mapFn w' (mpb p) (K + 1) (fun x => if x = c then some bs else if Pf (p ++ [x]) then some (blk (p ++ [x])) else none)) (hn : n₀ ≤ w.heap.size) :
    Trie w' n₀ (K + 1) (fun q => Pf q || q == p ++ [c]) Nm (fun q => if q = p ++ [c] then bs else blk q) (fun q => if q = p ++ [c] then bm else mpb q) := by
  have hpl := h.ltM hp
  have old : ∀ q, Pf q = true → q ≠ p ++ [c] := fun q hq e => by rw [e, hc] at hq; cases hq
  have hN : ∀ q, (Pf q || q == p ++ [c]) = true → q ≠ p ++ [c] → Pf q = true := fun q hq e => by simpa [e] using hq
  have new_kid : ∀ x, Pf (p ++ [c] ++ [x]) = false := fun x => by
    cases hx : Pf (p ++ [c] ++ [x])
    · rfl
    · rw [h.closed _ _ hx] at hc; cases hc
  have blk_same : ∀ i, i < w.heap.size → i ≠ mpb p → w'.heap[i]? = w.heap[i]? := fun i hi hne =>
    (hg.block i (Nat.lt_of_lt_of_le hi hA.size) (by simpa using hne)).trans (hA.block i hi (by simp))
  refine ⟨by simp [h.root], fun q x hq => ?_, fun q hq => by simp [h.named q hq], fun q hq => ?_, fun q hq => ?_, fun q hq => ?_, fun q r hq hr e => ?_, fun q r hq hr e => ?_⟩
  · by_cases e : q ++ [x] = p ++ [c]
    · obtain ⟨rfl, _⟩ := List.append_inj' e rfl
      simp [hp]
    · simp [h.closed q x (hN _ hq e)]
  · by_cases e : q = p ++ [c]
    · subst e
      simp only [if_pos]
      have hnm : Nm (p ++ [c]) = false := by
        cases hx : Nm (p ++ [c])
        · rfl
        · rw [h.named _ hx] at hc; cases hc
      rw [hnm]
      exact (hg.block bs (Array.getElem?_eq_some_iff.1 hs).1 (by simp; omega)).trans hs
    · simp only [if_neg e]
      have hq' := hN q hq e
      refine (blk_same _ (h.ltB hq') (fun e' => ?_)).trans (h.node q hq')
      obtain ⟨es, ck, hmm⟩ := (h.kids p hp).isMap
      rw [← e', h.node q hq'] at hmm
      cases hmm
  · by_cases e : q = p ++ [c]
    · subst e
      simp only [if_pos]
      have h1 := (hm.kept hg (by simp; omega)).mono (Nat.zero_le (K + 1))
      have e2 : (fun x => if (Pf (p ++ [c] ++ [x]) || p ++ [c] ++ [x] == p ++ [c]) = true then some (if p ++ [c] ++ [x] = p ++ [c] then bs else blk (p ++ [c] ++ [x])) else none) = (fun _ => (none : Option Nat)) := by
        funext x
        rw [new_kid x]
        simp
      rw [e2]
      exact h1
    · simp only [if_neg e]
      have hq' := hN q hq e
      by_cases eqp : q = p
      · subst eqp
        have e2 : (fun x => if (Pf (q ++ [x]) || q ++ [x] == q ++ [c]) = true then some (if q ++ [x] = q ++ [c] then bs else blk (q ++ [x])) else none) = (fun x => if x = c then some bs else if Pf (q ++ [x]) then some (blk (q ++ [x])) else none) := by
          funext x
          by_cases hx : x = c
          · subst hx; simp
          · simp [hx]
        rw [e2]
        exact hu
      · have hne : mpb q ≠ mpb p := fun e' => eqp (h.injM q p hq' hp e')
        have e2 : (fun x => if (Pf (q ++ [x]) || q ++ [x] == p ++ [c]) = true then some (if q ++ [x] = p ++ [c] then bs else blk (q ++ [x])) else none) = (fun x => if Pf (q ++ [x]) then some (blk (q ++ [x])) else none) := by
          funext x
          have : q ++ [x] ≠ p ++ [c] := fun e' => eqp (List.append_inj' e' rfl).1
          simp [this, eqp]
        rw [e2]
        exact ((h.kids q hq').at_block (blk_same _ (h.ltM hq') hne)).mono (by omega)
  · by_cases e : q = p ++ [c]
    · subst e; simp; omega
    · simp only [if_neg e]; exact h.ge q (hN q hq e)
  · by_cases e1 : q = p ++ [c] <;> by_cases e2 : r = p ++ [c]
    · rw [e1, e2]
    · simp only [if_pos e1, if_neg e2] at e
      have := h.ltB (hN r hr e2); omega
    · simp only [if_neg e1, if_pos e2] at e
      have := h.ltB (hN q hq e1); omega
    · simp only [if_neg e1, if_neg e2] at e
      exact h.injB q r (hN q hq e1) (hN r hr e2) e
  · by_cases e1 : q = p ++ [c] <;> by_cases e2 : r = p ++ [c]
    · rw [e1, e2]
    · simp only [if_pos e1, if_neg e2] at e
      have := h.ltM (hN r hr e2); omega
    · simp only [if_neg e1, if_pos e2] at e
      have := h.ltM (hN q hq e1); omega
    · simp only [if_neg e1, if_neg e2] at e
      exact h.injM q r (hN q hq e1) (hN r hr e2) e

theorem heap_setCell_self {b t : Nat} {x y v : Value} (h : w.heap[b]? = some (.cells #[x, y] t (0, 0))) : (w.setCell ⟨b, 1, none⟩ v).heap[b]? = some (.cells #[x, v] t (0, 0)) := by
  obtain ⟨hlt, hk⟩ := Array.getElem?_eq_some_iff.1 h
  show (w.heap.modify b _)[b]? = _
  rw [Array.getElem?_eq_getElem (by rw [Array.size_modify]; exact hlt), Array.getElem_modify_self, hk]
  simp
/-- A node is marked. -/
theorem Trie.mark (h : Trie w n₀ K Pf Nm blk mpb) {p : List Nat} (hp : Pf p = true) : Trie (w.setCell ⟨blk p, 1, none⟩ (.bool true)) n₀ K Pf (fun q => Nm q || q == p) blk mpb :=
  { h with
    named := fun q hq => by
      by_cases e : q = p
      · rw [e]; exact hp
      · exact h.named q (by simpa [e] using hq)
    node := fun q hq => by
      by_cases e : q = p
      · subst e
        rw [heap_setCell_self (h.node q hq)]
        simp
      · have e' : blk q ≠ blk p := fun e' => e (h.injB q p hq hp e')
        rw [Below.heap_setCell w ⟨blk p, 1, none⟩ _ (blk q) e', h.node q hq]
        simp [e]
    kids := fun q hq => by
      obtain ⟨es, ck, hm⟩ := (h.kids q hq).isMap
      refine (h.kids q hq).at_block (Below.heap_setCell w ⟨blk p, 1, none⟩ _ (mpb q) (fun e => ?_))
      rw [e, h.node p hp] at hm
      cases hm }
#print axioms Trie.child
#print axioms Trie.mark
end Tr
end Go.Proofs.Ytkinpihjjelcpaa.PE
