/- The contract of the reference's Table, second part: a round of the first loop. -/
import Derived.Test.YtkinpihjjelcpaaPETab
namespace Go.Proofs.Ytkinpihjjelcpaa.PE
open Go.RowKit Go.Proofs.YtkinpihjjelcpaaW.PrintWords Go.Proofs.YtkinpihjjelcpaaW.PrintLast Go.Proofs.YtkinpihjjelcpaaW.PrintMore
set_option linter.unusedSimpArgs false
set_option linter.unusedVariables false
namespace Tab
variable {base : Nat} {w0 w w' : World} {v2 v3 ve : Value} {T : List S43} {L : List ByteArray} {ps : List (List Int × Value)}
/-- An entity's box. -/
abbrev Box (w : World) (g : Nat) (x : S43) : Prop := w.heap[g]? = some (.cells #[.string x.f0, .int .i32 x.f1, .int .i32 x.f2, .bool x.f3] 43 (0, 0))
theorem box_below {g : Nat} {x : S43} (h : Box w g x) (hb : Below w.heap.size w w') : Box w' g x := (hb.block g (by
  rcases Nat.lt_or_ge g w.heap.size with h1 | h1
  · exact h1
  · have h2 : w.heap[g]? = _ := h
    rw [Array.getElem?_eq_none h1] at h2; cases h2)).trans h
theorem box_off {g : Nat} {x : S43} {b e s n : Nat} {u : Value} {ys : List Value} (h : Box w g x) (ho : w.ownsRow b e s u n ys) (hg : w.grownBy w' u.ownBlock) (ht : e ≠ 43) : Box w' g x := by
  refine (hg.block g ?_ (fun he => ?_)).trans h
  · rcases Nat.lt_or_ge g w.heap.size with h1 | h1
    · exact h1
    · have h2 : w.heap[g]? = _ := h
      rw [Array.getElem?_eq_none h1] at h2; cases h2
  · obtain ⟨c', hc'⟩ := own_typed ho g he.symm
    rw [h] at hc'
    injection hc' with hc'
    injection hc' with _ hc'
    exact ht hc'.symm
theorem box_names {g : Nat} {x : S43} (hs : St base w0 w v2 v3 ve T L ps) (hg : w.grownBy w' v2.ownBlock) (h : Box w g x) : Box w' g x := box_off h hs.names hg (by decide)
theorem box_vals {g : Nat} {x : S43} (hs : St base w0 w v2 v3 ve T L ps) (hg : w.grownBy w' v3.ownBlock) (h : Box w g x) : Box w' g x := box_off h hs.vals hg (by decide)
theorem box_cell {g : Nat} {x : S43} (h : Box w g x) (j : Nat) : w.cell? ⟨g, j, none⟩ = (#[Value.string x.f0, .int .i32 x.f1, .int .i32 x.f2, .bool x.f3] : Array Value)[j]? := by
  have h2 : w.heap[g]? = _ := h
  simp [World.cell?, h2]
theorem own_succ {w : World} {e size k : Nat} {v : Value} {xs : List Value} (h : w.ownsRow base e size v (k + 1) xs) : ∃ g cap, v = .slice (some ⟨g, 0, none⟩) (k + 1) cap := by
  rcases h.2 with ⟨_, h0⟩ | ⟨g, cap, _, rfl, _⟩
  · omega
  · exact ⟨g, cap, rfl⟩
theorem I_one {v : Value} {xs : List Int} (h : I w base v xs) : ∀ u ∈ [v], u.oneCell' = true := by
  intro u hu
  rw [List.mem_singleton.1 hu]
  obtain ⟨A, c, rfl, _⟩ := Kd.R_reads h
  rfl
theorem next_bare {i : Nat} {x : S43} {vi : Value} {L0 : List ByteArray} (hx : T[i]? = some x) (hb : x.f3 = true) (hL : L0 = (T.take i).flatMap nmOf) (hps : ps.map (fun p => p.1) = (T.take i).flatMap saOf)
    (hS : St base w0 w v2 v3 ve T ((L0 ++ [x.f0]) ++ [x.f0 ++ ⟨#[59]⟩]) ((ps ++ [(sa x, vi)]) ++ [(sa x, vi)])) : Rel base w0 T ve v2 v3 (i + 1) w := by
  refine ⟨(ps ++ [(sa x, vi)]) ++ [(sa x, vi)], ?_, ?_⟩
  · rw [take_up hx, List.flatMap_append, ← hL]
    simpa [nmOf, hb] using hS
  · rw [take_up hx, List.flatMap_append, ← hps]
    simp [saOf, hb]
theorem next_semi {i : Nat} {x : S43} {vi : Value} {L0 : List ByteArray} (hx : T[i]? = some x) (hb : ¬ x.f3 = true) (hL : L0 = (T.take i).flatMap nmOf) (hps : ps.map (fun p => p.1) = (T.take i).flatMap saOf)
    (hS : St base w0 w v2 v3 ve T (L0 ++ [x.f0 ++ ⟨#[59]⟩]) (ps ++ [(sa x, vi)])) : Rel base w0 T ve v2 v3 (i + 1) w := by
  refine ⟨ps ++ [(sa x, vi)], ?_, ?_⟩
  · rw [take_up hx, List.flatMap_append, ← hL]
    simpa [nmOf, hb] using hS
  · rw [take_up hx, List.flatMap_append, ← hps]
    simp [saOf, hb]

/-! ### the second loop, as a function of a list of names, each with what it bears -/
def less (a b : ByteArray) : Bool := Op.bytesLess a.toList b.toList
def swap {α : Type} (Z : List (ByteArray × α)) (k : Nat) : List (ByteArray × α) :=
  match Z[k]?, Z[k - 1]? with
  | some a, some b => (Z.set k b).set (k - 1) a
  | _, _ => Z
def goes {α : Type} (Z : List (ByteArray × α)) (k : Nat) : Bool :=
  match Z[k]?, Z[k - 1]? with
  | some a, some b => less a.1 b.1
  | _, _ => false
def ins {α : Type} : Nat → List (ByteArray × α) → List (ByteArray × α)
  | 0, Z => Z
  | k + 1, Z => if goes Z (k + 1) then ins k (swap Z (k + 1)) else Z
def outs {α : Type} : Nat → Nat → List (ByteArray × α) → List (ByteArray × α)
  | 0, _, Z => Z
  | d + 1, i, Z => outs d (i + 1) (ins i Z)
theorem swap_length {α : Type} (Z : List (ByteArray × α)) (k : Nat) : (swap Z k).length = Z.length := by
  unfold swap; split <;> simp
theorem ins_length {α : Type} : ∀ (k : Nat) (Z : List (ByteArray × α)), (ins k Z).length = Z.length
  | 0, _ => rfl
  | k + 1, Z => by
    unfold ins
    split
    · rw [ins_length k, swap_length]
    · rfl
theorem St.drew (h : St base w0 w v2 v3 ve T L ps) : St base w0 w.drew v2 v3 ve T L ps := h.below (Below.refl _ _).drew
theorem St.setName {g n c : Nat} (h : St base w0 w (.slice (some ⟨g, 0, none⟩) n c) v3 ve T L ps) (hn : L.length = n) (j : Nat) (b : ByteArray) :
    St base w0 (w.setCell ⟨g, j, none⟩ (.string b)) (.slice (some ⟨g, 0, none⟩) n c) v3 ve T (L.set j b) ps := by
  subst hn
  have hs := h.names.stored j (.string b)
  refine h.toNames hs.2 ?_
  rw [List.length_set, List.map_set]
  exact hs.1
theorem St.setVal {g n c : Nat} (h : St base w0 w v2 (.slice (some ⟨g, 0, none⟩) n c) ve T L ps) (hn : ps.length = n) (j : Nat) (p : List Int × Value) (hi : I w base p.2 p.1) :
    St base w0 (w.setCell ⟨g, j, none⟩ p.2) v2 (.slice (some ⟨g, 0, none⟩) n c) ve T L (ps.set j p) := by
  subst hn
  have hs := h.vals.stored j p.2
  refine h.toVals hs.2 (by rw [List.length_set, List.map_set]; exact hs.1) (fun q hq => ?_)
  rcases List.mem_or_eq_of_mem_set hq with hq | hq
  · exact h.ints q hq
  · rw [hq]; exact hi
/-- The state of the second loop. -/
def St2 (base : Nat) (w0 : World) (ve : Value) (T : List S43) (g2 c2 g3 c3 n : Nat) (Z : List (ByteArray × (List Int × Value))) (w : World) : Prop :=
  St base w0 w (.slice (some ⟨g2, 0, none⟩) n c2) (.slice (some ⟨g3, 0, none⟩) n c3) ve T (Z.map fun z => z.1) (Z.map fun z => z.2) ∧ Z.length = n
section
variable {g2 c2 g3 c3 n : Nat} {Z : List (ByteArray × (List Int × Value))}
theorem St2.drewN (h : St2 base w0 ve T g2 c2 g3 c3 n Z w) (m : Nat) : St2 base w0 ve T g2 c2 g3 c3 n Z (w.drewN m) := ⟨h.1.below (pw_below_drewN (Below.refl _ _) m), h.2⟩
theorem ins_stays {k : Nat} {za zb : ByteArray × (List Int × Value)} (ha : Z[k]? = some za) (hb : Z[k - 1]? = some zb) (hl : Op.bytesLess za.1.toList zb.1.toList = false) (hk : 0 < k) : ins k Z = Z := by
  obtain ⟨k, rfl⟩ : ∃ m, k = m + 1 := ⟨k - 1, by omega⟩
  unfold ins
  rw [if_neg]
  simp only [goes, ha, hb, less]
  rw [hl]; simp
theorem ins_goes {k : Nat} {za zb : ByteArray × (List Int × Value)} (ha : Z[k]? = some za) (hb : Z[k - 1]? = some zb) (hl : Op.bytesLess za.1.toList zb.1.toList = true) (hk : 0 < k) : ins k Z = ins (k - 1) (swap Z k) := by
  obtain ⟨k, rfl⟩ : ∃ m, k = m + 1 := ⟨k - 1, by omega⟩
  rw [ins, if_pos]
  · rfl
  · simp only [goes, ha, hb, less]
    exact hl
theorem St2.name (h : St2 base w0 ve T g2 c2 g3 c3 n Z w) {j : Nat} {z : ByteArray × (List Int × Value)} (hz : Z[j]? = some z) : w.cell? ⟨g2, j, none⟩ = some (.string z.1) ∧ w.frozen? ⟨g2, j, none⟩ = false := by
  obtain ⟨hS, rfl⟩ := h
  have hj := (List.getElem?_eq_some_iff.1 hz).1
  have hn := hS.names
  rw [List.length_map] at hn
  refine ⟨?_, hn.frozenAt j⟩
  rw [hn.cellAt j (by omega)]
  simp [hz, S]
theorem St2.val (h : St2 base w0 ve T g2 c2 g3 c3 n Z w) {j : Nat} {z : ByteArray × (List Int × Value)} (hz : Z[j]? = some z) : w.cell? ⟨g3, j, none⟩ = some z.2.2 ∧ w.frozen? ⟨g3, j, none⟩ = false ∧ I w base z.2.2 z.2.1 := by
  obtain ⟨hS, rfl⟩ := h
  have hj := (List.getElem?_eq_some_iff.1 hz).1
  have hn := hS.vals
  rw [List.length_map] at hn
  refine ⟨?_, hn.frozenAt j, hS.ints z.2 (List.mem_map_of_mem (List.mem_of_getElem? hz))⟩
  rw [hn.cellAt j (by omega)]
  simp [hz]
/-- The names have been swapped at k and k - 1. -/
theorem St2.swapped (h : St2 base w0 ve T g2 c2 g3 c3 n Z w) {k : Nat} {a b : ByteArray × (List Int × Value)} (ha : Z[k]? = some a) (hb : Z[k - 1]? = some b) (m : Nat) :
    St base w0 (((w.drewN m).setCell ⟨g2, k, none⟩ (.string b.1)).setCell ⟨g2, k - 1, none⟩ (.string a.1)) (.slice (some ⟨g2, 0, none⟩) n c2) (.slice (some ⟨g3, 0, none⟩) n c3) ve T ((swap Z k).map fun z => z.1) (Z.map fun z => z.2) := by
  obtain ⟨hS, hn⟩ := h.drewN m
  have h1 := (hS.setName (by simp [hn]) k b.1).setName (by simp [hn]) (k - 1) a.1
  simpa [swap, ha, hb, List.map_set] using h1
theorem St.swapVal {L : List ByteArray} (h : St base w0 w v2 (.slice (some ⟨g3, 0, none⟩) n c3) ve T L (Z.map fun z => z.2)) (hn : Z.length = n) {j : Nat} {z : ByteArray × (List Int × Value)} (hz : Z[j]? = some z) : w.cell? ⟨g3, j, none⟩ = some z.2.2 ∧ w.frozen? ⟨g3, j, none⟩ = false := by
  subst hn
  have hj := (List.getElem?_eq_some_iff.1 hz).1
  have hn := h.vals
  rw [List.length_map] at hn
  refine ⟨?_, hn.frozenAt j⟩
  rw [hn.cellAt j (by omega)]
  simp [hz]
theorem St.swappedVals {k : Nat} (h : St base w0 w (.slice (some ⟨g2, 0, none⟩) n c2) (.slice (some ⟨g3, 0, none⟩) n c3) ve T ((swap Z k).map fun z => z.1) (Z.map fun z => z.2)) (hn : Z.length = n) {a b : ByteArray × (List Int × Value)} (ha : Z[k]? = some a) (hb : Z[k - 1]? = some b) :
    St2 base w0 ve T g2 c2 g3 c3 n (swap Z k) ((w.drew.setCell ⟨g3, k, none⟩ b.2.2).setCell ⟨g3, k - 1, none⟩ a.2.2) := by
  have ia : I w.drew base a.2.2 a.2.1 := h.drew.ints a.2 (List.mem_map_of_mem (List.mem_of_getElem? ha))
  have ib : I w.drew base b.2.2 b.2.1 := h.drew.ints b.2 (List.mem_map_of_mem (List.mem_of_getElem? hb))
  have h1 := h.drew.setVal (by simp [hn]) k b.2 ib
  have hg : w.drew.grownBy (w.drew.setCell ⟨g3, k, none⟩ b.2.2) (some g3) := by
    have := h.drew.vals
    rw [List.length_map, hn] at this
    exact (this.stored k b.2.2).2
  have h2 := h1.setVal (by simp [hn]) (k - 1) a.2 (I_vals h.drew hg ia)
  refine ⟨?_, by rw [swap_length, hn]⟩
  have e : (swap Z k).map (fun z => z.2) = ((Z.map fun z => z.2).set k b.2).set (k - 1) a.2 := by simp [swap, ha, hb, List.map_set]
  rw [e]
  exact h2
end

/-- The sorted table: each name with what it stands for. -/
def sorted : List (ByteArray × List Int) := outs (tab.flatMap nmOf).length 0 ((tab.flatMap nmOf).zip (tab.flatMap saOf))
def TabPost (w : World) (e : Ending) (w' : World) : Prop :=
  ∃ (ps : List (List Int × Value)) (v2 v3 : Value), e = .returned (.tuple #[v2, v3]) ∧ w'.ownsRow w.heap.size 9 1 v2 sorted.length (sorted.map fun z => S z.1) ∧ w'.ownsRow w.heap.size 22 1 v3 sorted.length (ps.map fun p => p.2) ∧
    (∀ p, p ∈ ps → I w' w.heap.size p.2 p.1) ∧ ps.map (fun p => p.1) = sorted.map (fun z => z.2) ∧ Below w.heap.size w w'
def lift {α β : Type} (f : α → β) (Z : List (ByteArray × α)) : List (ByteArray × β) := Z.map fun z => (z.1, f z.2)
theorem lift_get {α β : Type} (f : α → β) (Z : List (ByteArray × α)) (j : Nat) : (lift f Z)[j]? = (Z[j]?).map fun z => (z.1, f z.2) := by simp [lift]
theorem lift_swap {α β : Type} (f : α → β) (Z : List (ByteArray × α)) (k : Nat) : lift f (swap Z k) = swap (lift f Z) k := by
  unfold swap
  rw [lift_get, lift_get]
  cases Z[k]? with
  | none => rfl
  | some a =>
    cases Z[k - 1]? with
    | none => rfl
    | some b => simp [lift, List.map_set]
theorem lift_goes {α β : Type} (f : α → β) (Z : List (ByteArray × α)) (k : Nat) : goes (lift f Z) k = goes Z k := by
  unfold goes
  rw [lift_get, lift_get]
  cases Z[k]? <;> cases Z[k - 1]? <;> rfl
theorem lift_ins {α β : Type} (f : α → β) : ∀ (k : Nat) (Z : List (ByteArray × α)), lift f (ins k Z) = ins k (lift f Z)
  | 0, _ => rfl
  | k + 1, Z => by
    rw [ins, ins, lift_goes]
    split
    · rw [lift_ins f k, lift_swap]
    · rfl
theorem lift_outs {α β : Type} (f : α → β) : ∀ (d i : Nat) (Z : List (ByteArray × α)), lift f (outs d i Z) = outs d i (lift f Z)
  | 0, _, _ => rfl
  | d + 1, i, Z => by rw [outs, outs, lift_outs f d, lift_ins]
theorem table_end {g2 c2 g3 c3 n : Nat} {ps : List (List Int × Value)} {Z0 R Z : List (ByteArray × (List Int × Value))} (hT : T = tab) (hn : (T.flatMap nmOf).length = n + 1) (hps : ps.map (fun p => p.1) = T.flatMap saOf) (h0 : Z0 = (T.flatMap nmOf).zip ps) (hR : outs (n + 1) 0 Z0 = R) (hZ : Z = R)
    (h : St2 w0.heap.size w0 ve T g2 c2 g3 c3 (n + 1) Z w) : TabPost w0 (.returned (.tuple #[.slice (some ⟨g2, 0, none⟩) (n + 1) c2, .slice (some ⟨g3, 0, none⟩) (n + 1) c3])) w := by
  subst hT hZ
  have hs : sorted = lift (fun p => p.1) Z := by
    unfold sorted
    rw [← hR, lift_outs, h0, hn, ← hps]
    congr 1
    simp [lift, List.zip_map_right, Function.comp_def]
  have hl : sorted.length = n + 1 := by rw [hs]; simp [lift, h.2]
  obtain ⟨hS, hl2⟩ := h
  refine ⟨Z.map fun z => z.2, _, _, rfl, ?_, ?_, hS.ints, ?_, hS.low⟩
  · have := hS.names
    rw [List.length_map, hl2, List.map_map] at this
    rw [hl, hs]
    simpa [lift, Function.comp_def] using this
  · have := hS.vals
    rw [List.length_map, hl2] at this
    rw [hl]
    exact this
  · rw [hs]; simp [lift, Function.comp_def]

set_option maxHeartbeats 4000000 in
set_option maxRecDepth 100000 in
theorem first (w : World) (T : List S43) (HT : Hid (T = tab)) (HTl : Hid (T.length ≤ 1000)) (HTs : Hid (∀ x, x ∈ T → x.f0.size ≤ 100)) : Calls Try.prog 25 #[] w (fun e w' => TabPost w e w') := by
  obtain ⟨i0, hi0, hz0, hs0, hb0⟩ := info_parts info9
  obtain ⟨i1, hi1, hz1, hs1, hb1⟩ := info_parts info22
  have J0 := Aside0.mk (And.intro hi0 (And.intro hz0 (And.intro hs0 hb0)))
  have J1 := Aside0.mk (And.intro hi1 (And.intro hz1 (And.intro hs1 hb1)))
  clear hi0 hz0 hs0 hb0 hi1 hz1 hs1 hb1
  go_enter Try.func25, Try.ntmps25
  go_wp2_with fail
  refine (api_Entities.calls T _ (by rw [HT.out]; rfl)).mono ?_
  rintro e w1 ⟨ve, rfl, hents, hb1⟩
  obtain ⟨A, c, rfl⟩ := Kd.R_slice hents
  have HR : Hid (Rel w.heap.size w T (.slice A T.length c) (.slice none 0 0) (.slice none 0 0) 0 w1) := Lib.hid ⟨[], ⟨World.ownsRow_nil _ _ _ _, World.ownsRow_nil _ _ _ _, (fun _ h => nomatch h), hents, hb1.size, hb1⟩, rfl⟩
  clear hents hb1
  go_wp2_with fail
  go_loopw [2, 3, 11] (fun v2 v3 v11 wr => ∃ (i : Nat), v11 = .int .i64 i ∧ i ≤ T.length ∧ Hid (Rel w.heap.size w T (.slice A T.length c) v2 v3 i wr)) (fun _ _ v11 _ => T.length - (intOf v11).toNat)
  case atStart => exact ⟨0, rfl, Nat.zero_le _, HR⟩
  case round =>
    clear HR
    obtain ⟨i, rfl, hi, HR⟩ := hrel
    have hTl := HTl.out
    by_cases hlt : i < T.length
    · obtain ⟨x, hx⟩ : ∃ x, T[i]? = some x := ⟨_, List.getElem?_eq_getElem hlt⟩
      have hxs : x.f0.size ≤ 100 := HTs.out x (List.mem_of_getElem? hx)
      obtain ⟨ps, hS, hps⟩ := HR.out
      obtain ⟨ad, e0, hc0, hc1, hc2, hc3⟩ := at_T43 (Kd.R_reads' hS.ents).2.2 (i : Int) (by omega) (by omega)
      obtain rfl := e0
      have ex : rd_T43 T (i : Int) = x := by simp [rd_T43, hx]
      rw [ex, Int.toNat_natCast] at hc0 hc1 hc2 hc3
      have HPn : Hid (ps.length ≤ 2000) := Lib.hid (by rw [len_ps hps]; have := len_nm T i; omega)
      have HLn : Hid (((T.take i).flatMap nmOf).length ≤ 2000) := Lib.hid (by have := len_nm T i; omega)
      obtain ⟨L0, hL0⟩ : ∃ L0, L0 = (T.take i).flatMap nmOf := ⟨_, rfl⟩
      rw [← hL0] at hS HLn
      have HL := Lib.hid hL0
      have Hx := Lib.hid hx
      have HS := Lib.hid hS
      have Hps := Lib.hid hps
      clear hx ex hS hps HR hL0
      go_wp2_with fail
      refine (sieveref05_says.calls x.f0 x.f1 x.f2 x.f3 _ _ (sa_eq x)).mono ?_
      rintro e w2 ⟨vi, rfl, hints, hb2⟩
      obtain ⟨Ai, ci, rfl⟩ := Kd.R_slice hints
      have hb3 : Below wr.heap.size wr w2 := ((Below.refl _ _).alloc (Nat.le_refl _) _).trans (hb2.mono (by simp))
      have HK : Hid (Box w2 wr.heap.size x) := Lib.hid ((hb2.block wr.heap.size (by simp)).trans (heap_alloc_new wr _))
      have n1_ := Lib.hid (HS.out.below hb3)
      have HI : Hid (I w2 w.heap.size (.slice Ai (sa x).length ci) (sa x)) := Lib.hid (Kd.R_lower hints (by have := HS.out.size; simp; omega))
      have HV := I_one HI.out
      clear HS hints hb2 hb3 hc0 hc1 hc2 hc3
      have HS := n1_
      clear n1_
      have hf0 := box_cell HK.out 0
      have hf3 := box_cell HK.out 3
      by_cases hbare : x.f3 = true
      · rw [hbare] at hf3
        have Hbare := Lib.hid hbare
        clear hbare
        go_wp2_with (first | ((with_reducible refine gate_builtin (b := .append) (xs := #[.tmp 19, .tmp 22]) rfl ?_); at_builtin; refine wpList_append_own _ rfl (.tmp 19) (.tmp 22) 38 rfl w.heap.size 9 i0 (.string ⟨#[]⟩) 1 16 Try.underlying38 J0.out.1 J0.out.2.1 J0.out.2.2.1 J0.out.2.2.2 rfl (by decide) _ _ _ rfl (HS.out.names.alloc _) ⟨_, 0, none⟩ 1 1 [.string (x.f0)] rfl rfl (cell_one_new _ _ _) (by simp [Value.oneCell']) (by have := HLn.out; have := HPn.out; (try simp only [List.length_append, List.length_singleton, maxLen]); omega) (by have := HLn.out; have := HPn.out; (try simp only [List.length_append, List.length_singleton]); omega) (Nat.le_trans HS.out.size (by simp)) ?_; intro v5 w5 hown hg _; have n1_ := Lib.hid (I_names (HS.out.below ((Below.refl _ _).alloc (Nat.le_refl _) _)) hg (Kd.R_below HI.out ((Below.refl _ _).alloc (Nat.le_refl _) _))); have n2_ := Lib.hid ((HS.out.below ((Below.refl _ _).alloc (Nat.le_refl _) _)).pushName hg hown); have n3_ := Lib.hid (box_names (HS.out.below ((Below.refl _ _).alloc (Nat.le_refl _) _)) hg (box_below HK.out ((Below.refl _ _).alloc (Nat.le_refl _) _))); clear hown hg HI HS HK hf0; have HI := n1_; have HS := n2_; have HK := n3_; clear n1_ n2_ n3_; have hf0 := box_cell HK.out 0) | ((with_reducible refine gate_builtin (b := .append) (xs := #[.tmp 24, .tmp 26]) rfl ?_); at_builtin; refine wpList_append_own _ rfl (.tmp 24) (.tmp 26) 45 rfl w.heap.size 22 i1 (.slice none 0 0) 1 24 Try.underlying45 J1.out.1 J1.out.2.1 J1.out.2.2.1 J1.out.2.2.2 rfl (by decide) _ _ _ rfl (HS.out.vals.alloc _) ⟨_, 0, none⟩ 1 1 [.slice Ai (sa x).length ci] rfl rfl (cell_one_new _ _ _) HV (by have := HLn.out; have := HPn.out; (try simp only [List.length_append, List.length_singleton, maxLen]); omega) (by have := HLn.out; have := HPn.out; (try simp only [List.length_append, List.length_singleton]); omega) (Nat.le_trans HS.out.size (by simp)) ?_; intro v5 w5 hown hg _; have n1_ := Lib.hid (I_vals (HS.out.below ((Below.refl _ _).alloc (Nat.le_refl _) _)) hg (Kd.R_below HI.out ((Below.refl _ _).alloc (Nat.le_refl _) _))); have n2_ := Lib.hid ((HS.out.below ((Below.refl _ _).alloc (Nat.le_refl _) _)).pushVal hg (Kd.R_below HI.out ((Below.refl _ _).alloc (Nat.le_refl _) _)) hown); have n3_ := Lib.hid (box_vals (HS.out.below ((Below.refl _ _).alloc (Nat.le_refl _) _)) hg (box_below HK.out ((Below.refl _ _).alloc (Nat.le_refl _) _))); clear hown hg HI HS HK hf0; have HI := n1_; have HS := n2_; have HK := n3_; clear n1_ n2_ n3_; have hf0 := box_cell HK.out 0) | ((with_reducible refine gate_builtin (b := .append) (xs := #[.tmp 28, .tmp 32]) rfl ?_); at_builtin; refine wpList_append_own _ rfl (.tmp 28) (.tmp 32) 38 rfl w.heap.size 9 i0 (.string ⟨#[]⟩) 1 16 Try.underlying38 J0.out.1 J0.out.2.1 J0.out.2.2.1 J0.out.2.2.2 rfl (by decide) _ _ _ rfl (HS.out.names.alloc _) ⟨_, 0, none⟩ 1 1 [.string (x.f0 ++ ⟨#[59]⟩)] rfl rfl (cell_one_new _ _ _) (by simp [Value.oneCell']) (by have := HLn.out; have := HPn.out; (try simp only [List.length_append, List.length_singleton, maxLen]); omega) (by have := HLn.out; have := HPn.out; (try simp only [List.length_append, List.length_singleton]); omega) (Nat.le_trans HS.out.size (by simp)) ?_; intro v5 w5 hown hg _; have n1_ := Lib.hid (I_names (HS.out.below ((Below.refl _ _).alloc (Nat.le_refl _) _)) hg (Kd.R_below HI.out ((Below.refl _ _).alloc (Nat.le_refl _) _))); have n2_ := Lib.hid ((HS.out.below ((Below.refl _ _).alloc (Nat.le_refl _) _)).pushName hg hown); have n3_ := Lib.hid (box_names (HS.out.below ((Below.refl _ _).alloc (Nat.le_refl _) _)) hg (box_below HK.out ((Below.refl _ _).alloc (Nat.le_refl _) _))); clear hown hg HI HS HK hf0; have HI := n1_; have HS := n2_; have HK := n3_; clear n1_ n2_ n3_; have hf0 := box_cell HK.out 0) | ((with_reducible refine gate_builtin (b := .append) (xs := #[.tmp 34, .tmp 36]) rfl ?_); at_builtin; refine wpList_append_own _ rfl (.tmp 34) (.tmp 36) 45 rfl w.heap.size 22 i1 (.slice none 0 0) 1 24 Try.underlying45 J1.out.1 J1.out.2.1 J1.out.2.2.1 J1.out.2.2.2 rfl (by decide) _ _ _ rfl (HS.out.vals.alloc _) ⟨_, 0, none⟩ 1 1 [.slice Ai (sa x).length ci] rfl rfl (cell_one_new _ _ _) HV (by have := HLn.out; have := HPn.out; (try simp only [List.length_append, List.length_singleton, maxLen]); omega) (by have := HLn.out; have := HPn.out; (try simp only [List.length_append, List.length_singleton]); omega) (Nat.le_trans HS.out.size (by simp)) ?_; intro v5 w5 hown hg _; have n1_ := Lib.hid (I_vals (HS.out.below ((Below.refl _ _).alloc (Nat.le_refl _) _)) hg (Kd.R_below HI.out ((Below.refl _ _).alloc (Nat.le_refl _) _))); have n2_ := Lib.hid ((HS.out.below ((Below.refl _ _).alloc (Nat.le_refl _) _)).pushVal hg (Kd.R_below HI.out ((Below.refl _ _).alloc (Nat.le_refl _) _)) hown); have n3_ := Lib.hid (box_vals (HS.out.below ((Below.refl _ _).alloc (Nat.le_refl _) _)) hg (box_below HK.out ((Below.refl _ _).alloc (Nat.le_refl _) _))); clear hown hg HI HS HK hf0; have HI := n1_; have HS := n2_; have HK := n3_; clear n1_ n2_ n3_; have hf0 := box_cell HK.out 0))
        go_roundw
        case rel => exact ⟨i + 1, by go_num, by omega, Lib.hid (next_bare Hx.out Hbare.out HL.out Hps.out HS.out)⟩
        case measure => simp [intOf]; omega
      · have hbf : x.f3 = false := by simpa using hbare
        rw [hbf] at hf3
        have Hbare := Lib.hid hbare
        clear hbare hbf
        go_wp2_with (first | ((with_reducible refine gate_builtin (b := .append) (xs := #[.tmp 28, .tmp 32]) rfl ?_); at_builtin; refine wpList_append_own _ rfl (.tmp 28) (.tmp 32) 38 rfl w.heap.size 9 i0 (.string ⟨#[]⟩) 1 16 Try.underlying38 J0.out.1 J0.out.2.1 J0.out.2.2.1 J0.out.2.2.2 rfl (by decide) _ _ _ rfl (HS.out.names.alloc _) ⟨_, 0, none⟩ 1 1 [.string (x.f0 ++ ⟨#[59]⟩)] rfl rfl (cell_one_new _ _ _) (by simp [Value.oneCell']) (by have := HLn.out; have := HPn.out; (try simp only [List.length_append, List.length_singleton, maxLen]); omega) (by have := HLn.out; have := HPn.out; (try simp only [List.length_append, List.length_singleton]); omega) (Nat.le_trans HS.out.size (by simp)) ?_; intro v5 w5 hown hg _; have n1_ := Lib.hid (I_names (HS.out.below ((Below.refl _ _).alloc (Nat.le_refl _) _)) hg (Kd.R_below HI.out ((Below.refl _ _).alloc (Nat.le_refl _) _))); have n2_ := Lib.hid ((HS.out.below ((Below.refl _ _).alloc (Nat.le_refl _) _)).pushName hg hown); have n3_ := Lib.hid (box_names (HS.out.below ((Below.refl _ _).alloc (Nat.le_refl _) _)) hg (box_below HK.out ((Below.refl _ _).alloc (Nat.le_refl _) _))); clear hown hg HI HS HK hf0; have HI := n1_; have HS := n2_; have HK := n3_; clear n1_ n2_ n3_; have hf0 := box_cell HK.out 0) | ((with_reducible refine gate_builtin (b := .append) (xs := #[.tmp 34, .tmp 36]) rfl ?_); at_builtin; refine wpList_append_own _ rfl (.tmp 34) (.tmp 36) 45 rfl w.heap.size 22 i1 (.slice none 0 0) 1 24 Try.underlying45 J1.out.1 J1.out.2.1 J1.out.2.2.1 J1.out.2.2.2 rfl (by decide) _ _ _ rfl (HS.out.vals.alloc _) ⟨_, 0, none⟩ 1 1 [.slice Ai (sa x).length ci] rfl rfl (cell_one_new _ _ _) HV (by have := HLn.out; have := HPn.out; (try simp only [List.length_append, List.length_singleton, maxLen]); omega) (by have := HLn.out; have := HPn.out; (try simp only [List.length_append, List.length_singleton]); omega) (Nat.le_trans HS.out.size (by simp)) ?_; intro v5 w5 hown hg _; have n1_ := Lib.hid (I_vals (HS.out.below ((Below.refl _ _).alloc (Nat.le_refl _) _)) hg (Kd.R_below HI.out ((Below.refl _ _).alloc (Nat.le_refl _) _))); have n2_ := Lib.hid ((HS.out.below ((Below.refl _ _).alloc (Nat.le_refl _) _)).pushVal hg (Kd.R_below HI.out ((Below.refl _ _).alloc (Nat.le_refl _) _)) hown); have n3_ := Lib.hid (box_vals (HS.out.below ((Below.refl _ _).alloc (Nat.le_refl _) _)) hg (box_below HK.out ((Below.refl _ _).alloc (Nat.le_refl _) _))); clear hown hg HI HS HK hf0; have HI := n1_; have HS := n2_; have HK := n3_; clear n1_ n2_ n3_; have hf0 := box_cell HK.out 0))
        go_roundw
        case rel => exact ⟨i + 1, by go_num, by omega, Lib.hid (next_semi Hx.out Hbare.out HL.out Hps.out HS.out)⟩
        case measure => simp [intOf]; omega
    · obtain ⟨ps, hS, hps⟩ := HR.out
      have hi' : i = T.length := by omega
      subst hi'
      rw [List.take_length] at hS hps
      have hlen : ps.length = (T.flatMap nmOf).length := by have := len_ps (T := T) (i := T.length) (ps := ps) (by rw [List.take_length]; exact hps); rwa [List.take_length] at this
      obtain ⟨n, hn⟩ : ∃ n, (T.flatMap nmOf).length = n + 1 := by
        have : (T.flatMap nmOf).length ≠ 0 := by rw [HT.out]; decide +kernel
        exact ⟨(T.flatMap nmOf).length - 1, by omega⟩
      have hnb : n + 1 ≤ 2000 := by have := len_nm T T.length; rw [List.take_length] at this; omega
      obtain ⟨g2, c2, e2⟩ := own_succ (k := n) (by rw [← hn]; exact hS.names)
      obtain ⟨g3, c3, e3⟩ := own_succ (k := n) (by rw [← hn, ← hlen]; exact hS.vals)
      subst e2 e3
      have HZ : Hid (St2 w.heap.size w (.slice A T.length c) T g2 c2 g3 c3 (n + 1) ((T.flatMap nmOf).zip ps) wr) := Lib.hid ⟨by
        rw [show ((T.flatMap nmOf).zip ps).map (fun z => z.1) = T.flatMap nmOf from List.map_fst_zip (by omega), show ((T.flatMap nmOf).zip ps).map (fun z => z.2) = ps from List.map_snd_zip (by omega)]
        exact hS, by rw [List.length_zip, hlen, hn]; omega⟩
      obtain ⟨R, HRR⟩ : ∃ R, Hid (outs (n + 1) 0 ((T.flatMap nmOf).zip ps) = R) := ⟨_, Lib.hid rfl⟩
      obtain ⟨Z0, HZ0⟩ : ∃ Z0, Hid (Z0 = (T.flatMap nmOf).zip ps) := ⟨_, Lib.hid rfl⟩
      rw [← HZ0.out] at HZ HRR
      have HRR0 : Hid (outs (n + 1) 0 Z0 = R) := Lib.hid HRR.out
      have HNn : Hid ((T.flatMap nmOf).length = n + 1) := Lib.hid hn
      have Hps := Lib.hid hps
      clear HR hS hps hlen hn hlt hi
      go_wp2_with fail
      go_loopw [41] (fun v41 wr => ∃ (i : Nat) (Z : List (ByteArray × (List Int × Value))), v41 = .int .i64 i ∧ i ≤ n + 1 ∧ Hid (St2 w.heap.size w (.slice A T.length c) T g2 c2 g3 c3 (n + 1) Z wr) ∧ Hid (outs (n + 1 - i) i Z = R)) (fun v41 _ => n + 1 - (intOf v41).toNat)
      case atStart => exact ⟨0, Z0, rfl, Nat.zero_le _, HZ, HRR⟩
      case round =>
        clear HZ HRR
        obtain ⟨i, Z, rfl, hi, HZ, HRR⟩ := hrel
        by_cases hlt : i < n + 1
        · obtain ⟨R1, HR1⟩ : ∃ R1, Hid (ins i Z = R1) := ⟨_, Lib.hid rfl⟩
          have HN1 : Hid (outs (n + 1 - (i + 1)) (i + 1) R1 = R) := Lib.hid (by
            have h1 := HRR.out
            rw [show n + 1 - i = (n + 1 - (i + 1)) + 1 by omega, outs, HR1.out] at h1
            exact h1)
          obtain ⟨wo, hwo⟩ : ∃ wo : World, wo = wr := ⟨_, rfl⟩
          subst hwo
          clear HRR
          go_wp2_with fail
          go_loopw [8] (fun v8 wr => ∃ (k : Nat) (Z : List (ByteArray × (List Int × Value))), v8 = .int .i64 k ∧ k < n + 1 ∧ Hid (St2 w.heap.size w (.slice A T.length c) T g2 c2 g3 c3 (n + 1) Z wr) ∧ Hid (ins k Z = R1)) (fun v8 _ => (intOf v8).toNat)
          case atStart => exact ⟨i, Z, rfl, hlt, HZ, HR1⟩
          case round =>
            clear HZ HR1
            obtain ⟨k, Z, rfl, hk, HZ, HR1⟩ := hrel
            by_cases hk0 : 0 < k
            · obtain ⟨za, hza⟩ : ∃ za, Z[k]? = some za := ⟨_, List.getElem?_eq_getElem (by rw [HZ.out.2]; exact hk)⟩
              obtain ⟨zb, hzb⟩ : ∃ zb, Z[k - 1]? = some zb := ⟨_, List.getElem?_eq_getElem (by rw [HZ.out.2]; omega)⟩
              obtain ⟨na, xa, ua⟩ := za
              obtain ⟨nb, xb, ub⟩ := zb
              have iA : I wr w.heap.size ua xa := (HZ.out.val hza).2.2
              have iB : I wr w.heap.size ub xb := (HZ.out.val hzb).2.2
              obtain ⟨Aa, la, rfl⟩ := Kd.R_slice iA
              obtain ⟨Ab, lb, rfl⟩ := Kd.R_slice iB
              clear iA iB
              obtain ⟨ca, fa⟩ := HZ.out.name hza
              obtain ⟨cb, fb⟩ := HZ.out.name hzb
              dsimp only at ca cb
              have HN2 : Hid (Z.length = n + 1) := Lib.hid HZ.out.2
              have hkd : decide (0 < (k : Int)) = true := decide_eq_true (by omega)
              have Ha := Lib.hid hza
              have Hb := Lib.hid hzb
              clear hza hzb
              by_cases hl : Op.bytesLess na.toList nb.toList = true
              · go_wp2_with fail
                go_quiet (fail)
                go_wp2_with fail
                go_region
                have HW := Lib.hid (St2.swapped HZ.out Ha.out Hb.out (nq + 1))
                have HG := Lib.hid (ins_goes Ha.out Hb.out hl hk0)
                go_wp2_with fail
                obtain ⟨W1, hW1⟩ : ∃ W1, W1 = ((wr.drewN (nq + 1)).setCell ⟨g2, k, none⟩ (.string nb)).setCell ⟨g2, k - 1, none⟩ (.string na) := ⟨_, rfl⟩
                rw [← hW1] at HW ⊢
                clear hW1 ca cb fa fb HZ
                obtain ⟨va, wa⟩ := St.swapVal HW.out (HN2.out) Ha.out
                obtain ⟨vb, wb⟩ := St.swapVal HW.out (HN2.out) Hb.out
                dsimp only at va vb
                go_region
                have HZ2 := Lib.hid (St.swappedVals HW.out HN2.out Ha.out Hb.out)
                rw [World.setCell_drew, World.setCell_drew] at HZ2
                have HR2 := Lib.hid (HG.out.symm.trans HR1.out)
                clear HG HR1 HW
                go_wp2_with fail
                exact ⟨⟨k - 1, by omega, by omega, swap Z k, HZ2, HR2⟩, by simp [intOf]; omega⟩
              · have hlf : Op.bytesLess na.toList nb.toList = false := by simpa using hl
                have HE : Hid (Z = R1) := Lib.hid (by rw [← HR1.out]; exact (ins_stays Ha.out Hb.out hlf hk0).symm)
                go_wp2_with fail
                go_quiet (fail)
                go_wp2_with fail
                exact ⟨⟨i + 1, Z, by go_num, by omega, Lib.hid (HZ.out.drewN _), Lib.hid (by rw [HE.out]; exact HN1.out)⟩, by simp [intOf]; omega⟩
            · obtain rfl : k = 0 := by omega
              have HE : Hid (Z = R1) := Lib.hid HR1.out
              go_wp2_with fail
              go_quiet (fail)
              go_wp2_with fail
              exact ⟨⟨i + 1, Z, by go_num, by omega, Lib.hid (HZ.out.drewN _), Lib.hid (by rw [HE.out]; exact HN1.out)⟩, by simp [intOf]; omega⟩
        · have hi' : i = n + 1 := by omega
          subst hi'
          have HX : Hid (Z = R) := Lib.hid (by have := HRR.out; rwa [Nat.sub_self] at this)
          have HE := Lib.hid (table_end HT.out HNn.out Hps.out HZ0.out HRR0.out HX.out HZ.out)
          clear HRR HX HZ
          go_wp2_with fail
          go_ret2
          exact HE.out
end Tab
theorem sieveref05_Table.calls (w : World) : Calls Try.prog 25 #[] w (fun e w' => Tab.TabPost w e w') :=
  Tab.first w tab (Lib.hid rfl) (Lib.hid (by rw [tab_length]; omega)) (Lib.hid (by
    have h : tab.all (fun x => decide (x.f0.size ≤ 100)) = true := by decide +kernel
    intro x hx
    exact of_decide_eq_true (List.all_eq_true.1 h x hx)))
end Go.Proofs.Ytkinpihjjelcpaa.PE
