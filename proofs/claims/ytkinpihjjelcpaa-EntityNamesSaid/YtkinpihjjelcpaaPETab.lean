/- The contract of the reference's Table: it answers two new rows, the sorted names and what they stand for; nothing that was there is changed. First part: what lies in memory, and the first loop. -/
import Derived.Test.YtkinpihjjelcpaaPEEnt
import Derived.Test.YtkinpihjjelcpaaPEf21
import Derived.Laws.AppendOwn
import Derived.Lib.Hide
namespace Go.Proofs.Ytkinpihjjelcpaa.PE
open Go.RowKit Go.Proofs.YtkinpihjjelcpaaW.PrintWords Go.Proofs.YtkinpihjjelcpaaW.PrintLast Go.Proofs.YtkinpihjjelcpaaW.PrintMore
namespace Tab

def S (b : ByteArray) : Value := .string b
def sa (x : S43) : List Int := if x.f2 = 0 then [x.f1] else [x.f1, x.f2]
theorem sa_eq (x : S43) : sieveref05_says.f x.f0 x.f1 x.f2 x.f3 = some (sa x) := by
  unfold sieveref05_says.f sa
  split <;> rfl
/-- A list of runes in memory, from base on. -/
abbrev I (w : World) (base : Nat) (v : Value) (xs : List Int) : Prop := Kd.R (Kd.int .i32) 21 w base (fun _ => True) v xs

/-- What lies in memory: the names (in v2), what they stand for (in v3), the entities; all of it from base on; what lay below base is as it was in w0. -/
structure St (base : Nat) (w0 w : World) (v2 v3 ve : Value) (T : List S43) (L : List ByteArray) (ps : List (List Int × Value)) : Prop where
  names : w.ownsRow base 9 1 v2 L.length (L.map S)
  vals : w.ownsRow base 22 1 v3 ps.length (ps.map fun p => p.2)
  ints : ∀ p, p ∈ ps → I w base p.2 p.1
  ents : Kd.R k43 43 w base (fun _ => True) ve T
  size : base ≤ w.heap.size
  low : Below base w0 w

variable {base : Nat} {w0 w w' : World} {v2 v3 ve : Value} {T : List S43} {L : List ByteArray} {ps : List (List Int × Value)}
theorem St.below (h : St base w0 w v2 v3 ve T L ps) (hb : Below w.heap.size w w') : St base w0 w' v2 v3 ve T L ps where
  names := own_move h.names (fun k hk => hb.block k (own_lt h.names k hk))
  vals := own_move h.vals (fun k hk => hb.block k (own_lt h.vals k hk))
  ints := fun p hp => Kd.R_below (h.ints p hp) hb
  ents := Kd.R_below h.ents hb
  size := Nat.le_trans h.size hb.size
  low := h.low.trans (hb.mono h.size)

theorem R_away {α : Type} {d : Kd α} {e base base' e' s n : Nat} {w w1 : World} {v u : Value} {xs : List α} {ys : List Value} (h : d.R e w base (fun _ => True) v xs) (ho : w.ownsRow base' e' s u n ys)
    (hg : w.grownBy w1 u.ownBlock) (ht : ∀ q, q ∈ e :: d.E → q ≠ e') : d.R e w1 base (fun _ => True) v xs := by
  refine Kd.R_mono (Kd.R_grown (Kd.R_bound h) hg (fun k hk he => ?_)) (fun _ _ => trivial)
  obtain ⟨_, _, _, q, hq, c, hc⟩ := hk
  obtain ⟨c', hc'⟩ := own_typed ho k he.symm
  rw [hc] at hc'
  injection hc' with hc'
  injection hc' with _ hc'
  exact ht q hq hc'
theorem own_away {base e s n base' e' s' m : Nat} {w w1 : World} {v u : Value} {xs ys : List Value} (h : w.ownsRow base e s v n xs) (ho : w.ownsRow base' e' s' u m ys)
    (hg : w.grownBy w1 u.ownBlock) (ht : e ≠ e') : w1.ownsRow base e s v n xs := by
  refine own_move h (fun k hk => hg.block k (own_lt h k hk) (fun he => ?_))
  obtain ⟨c, hc⟩ := own_typed h k hk
  obtain ⟨c', hc'⟩ := own_typed ho k he.symm
  rw [hc] at hc'
  injection hc' with hc'
  injection hc' with _ hc'
  exact ht hc'
theorem I_names (h : St base w0 w v2 v3 ve T L ps) (hg : w.grownBy w' v2.ownBlock) {v : Value} {xs : List Int} (hi : I w base v xs) : I w' base v xs :=
  R_away hi h.names hg (by decide)
theorem I_vals (h : St base w0 w v2 v3 ve T L ps) (hg : w.grownBy w' v3.ownBlock) {v : Value} {xs : List Int} (hi : I w base v xs) : I w' base v xs :=
  R_away hi h.vals hg (by decide)
/-- The names' row has been written. -/
theorem St.toNames (h : St base w0 w v2 v3 ve T L ps) (hg : w.grownBy w' v2.ownBlock) {v2' : Value} {L' : List ByteArray} (hn : w'.ownsRow base 9 1 v2' L'.length (L'.map S)) : St base w0 w' v2' v3 ve T L' ps where
  names := hn
  vals := own_away h.vals h.names hg (by decide)
  ints := fun p hp => I_names h hg (h.ints p hp)
  ents := R_away h.ents h.names hg (by decide)
  size := Nat.le_trans h.size hg.size
  low := h.low.grown hg h.size (fun k hk => own_base h.names k hk)
/-- The values' row has been written. -/
theorem St.toVals (h : St base w0 w v2 v3 ve T L ps) (hg : w.grownBy w' v3.ownBlock) {v3' : Value} {ps' : List (List Int × Value)} (hn : w'.ownsRow base 22 1 v3' ps'.length (ps'.map fun p => p.2))
    (hi : ∀ p, p ∈ ps' → I w base p.2 p.1) : St base w0 w' v2 v3' ve T L ps' where
  names := own_away h.names h.vals hg (by decide)
  vals := hn
  ints := fun p hp => I_vals h hg (hi p hp)
  ents := R_away h.ents h.vals hg (by decide)
  size := Nat.le_trans h.size hg.size
  low := h.low.grown hg h.size (fun k hk => own_base h.vals k hk)

theorem St.pushName (h : St base w0 w v2 v3 ve T L ps) (hg : w.grownBy w' v2.ownBlock) {v2' : Value} {nm : ByteArray} (hn : w'.ownsRow base 9 1 v2' (L.length + 1) (L.map S ++ [.string nm])) : St base w0 w' v2' v3 ve T (L ++ [nm]) ps :=
  h.toNames hg (by simpa [S] using hn)
theorem St.pushVal (h : St base w0 w v2 v3 ve T L ps) (hg : w.grownBy w' v3.ownBlock) {v3' vi : Value} {xs : List Int} (hi : I w base vi xs) (hn : w'.ownsRow base 22 1 v3' (ps.length + 1) ((ps.map fun p => p.2) ++ [vi])) : St base w0 w' v2 v3' ve T L (ps ++ [(xs, vi)]) :=
  h.toVals hg (by simpa using hn) (fun p hp => by
    rcases List.mem_append.1 hp with hp | hp
    · exact h.ints p hp
    · rw [List.mem_singleton.1 hp]; exact hi)

/-- The names and what they stand for, as the first loop makes them. -/
def nmOf (x : S43) : List ByteArray := if x.f3 then [x.f0, x.f0 ++ ⟨#[59]⟩] else [x.f0 ++ ⟨#[59]⟩]
def saOf (x : S43) : List (List Int) := if x.f3 then [sa x, sa x] else [sa x]
theorem take_up {T : List S43} {i : Nat} {x : S43} (h : T[i]? = some x) : T.take (i + 1) = T.take i ++ [x] := by
  obtain ⟨hi, e⟩ := List.getElem?_eq_some_iff.1 h
  rw [List.take_succ_eq_append_getElem hi, e]
theorem info9 : (Try.prog.info? 9).map (fun i => (i.zero, i.size, i.bytes)) = some (some (.string ⟨#[]⟩), 1, 16) := by kernel_rfl
theorem info22 : (Try.prog.info? 22).map (fun i => (i.zero, i.size, i.bytes)) = some (some (.slice none 0 0), 1, 24) := by kernel_rfl
theorem len_nm (T : List S43) (i : Nat) : ((T.take i).flatMap nmOf).length ≤ 2 * i := by
  induction i generalizing T with
  | zero => simp
  | succ i ih =>
    cases T with
    | nil => simp
    | cons x T =>
      have := ih T
      have : (nmOf x).length ≤ 2 := by unfold nmOf; split <;> simp
      simp only [List.take_succ_cons, List.flatMap_cons, List.length_append]
      omega

/-- The first loop's state. -/
def Rel (base : Nat) (w0 : World) (T : List S43) (ve : Value) (v2 v3 : Value) (i : Nat) (w : World) : Prop :=
  ∃ ps : List (List Int × Value), St base w0 w v2 v3 ve T ((T.take i).flatMap nmOf) ps ∧ ps.map (fun p => p.1) = (T.take i).flatMap saOf
theorem len_ps {T : List S43} {i : Nat} {ps : List (List Int × Value)} (h : ps.map (fun p => p.1) = (T.take i).flatMap saOf) : ps.length = ((T.take i).flatMap nmOf).length := by
  rw [← List.length_map (f := fun p : List Int × Value => p.1), h]
  simp only [List.length_flatMap]
  congr 2
  funext x
  unfold saOf nmOf
  split <;> rfl
end Tab
end Go.Proofs.Ytkinpihjjelcpaa.PE
