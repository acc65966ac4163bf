/- EntityNames: the contract of All and of what it hands back. -/
import Derived.Test.YtkinpihjjelcpaaPN3
namespace Go.Proofs.Ytkinpihjjelcpaa.PE
open Go.RowKit Go.Shelf Go.Proofs.YtkinpihjjelcpaaW.PrintWords Go.Proofs.YtkinpihjjelcpaaW.PrintLast Go.Proofs.YtkinpihjjelcpaaW.PrintMore
set_option linter.unusedSimpArgs false
set_option linter.unusedVariables false
attribute [local go_sem] Oper.semAt_some
namespace Tr
theorem Trie.nmono {w : World} {n₀ n₁ K : Nat} {Pf Nm : List Nat → Bool} {blk mpb : List Nat → Nat} (h : Trie w n₀ K Pf Nm blk mpb) (hn : n₁ ≤ n₀) : Trie w n₁ K Pf Nm blk mpb :=
  { h with ge := fun p hp => ⟨Nat.le_trans hn (h.ge p hp).1, Nat.le_trans hn (h.ge p hp).2⟩ }
theorem grown_of_below {w w' : World} (h : Below w.heap.size w w') : w.grownBy w' none := ⟨h.os, h.tape, h.output, h.size, fun k hk _ => h.block k hk⟩
/-- How many names All hands to yield. -/
def allN (d : Nat) : Nat := walkN (PfL (tab.flatMap putOf)) (NmL (tab.flatMap putOf)) d []

theorem run_store_func {P : Program} {w : World} {a : Addr} {m : Mode} (f : Fn) (bs cs : Array Value) : (store a (.func f bs cs) m).run P w = stored P w a (.func f bs cs) m := run_store P w a _ m rfl
attribute [local go_sem] run_store_func
structure TreeSt (W : World) (n₀ l K : Nat) (blk mpb : List Nat → Nat) (w1 : World) : Prop where
  tr : Trie w1 n₀ K (PfL (tab.flatMap putOf)) (NmL (tab.flatMap putOf)) blk mpb
  be : Below W.heap.size W w1
  yb : w1.heap[W.heap.size]? = some (.cells #[.func (.yield l) #[] #[]] 28 (0, 0))
/-- walk's variable. -/
def wv (a b : Nat) : Obj := .cells #[.func (.func 28) #[] #[.pointer (some ⟨a, 0, none⟩), .pointer (some ⟨b, 0, none⟩)]] 53
/-- What is there when walk's variable has been laid and set. -/
theorem TreeSt.set {W w1 : World} {n₀ l K : Nat} {blk mpb : List Nat → Nat} (h : TreeSt W n₀ l K blk mpb w1) (hn : n₀ ≤ W.heap.size) :
    WM n₀ K W.heap.size w1.heap.size l (PfL (tab.flatMap putOf)) (NmL (tab.flatMap putOf)) blk mpb (w1.alloc (wv W.heap.size w1.heap.size)) ∧ Below W.heap.size W (w1.alloc (wv W.heap.size w1.heap.size)) := by
  have hsz := h.be.size
  exact ⟨⟨h.tr.alloc _, (Below.heap_alloc _ _ _ (Array.getElem?_eq_some_iff.1 h.yb).1).trans h.yb, heap_alloc_new w1 _, hn, Nat.le_trans hn hsz⟩, h.be.alloc hsz _⟩
set_option maxHeartbeats 4000000 in
set_option maxRecDepth 100000 in
theorem all1_walk (n l Bp n₀ d : Nat) (hd9 : d ≤ 900) (hlong : ∀ q, PfL (tab.flatMap putOf) q = true → q.length ≤ d) (J Jx : List ByteArray → World → Prop) (W : World) (hn : n₀ ≤ W.heap.size) (hp : W.cell? ⟨Bp, 0, none⟩ = some (.string ⟨#[]⟩)) (hJ : AbidesFrom W.heap.size J) (h0 : J [] W)
    (hY : ∀ m pre x W1, J pre W1 → pre.length < allN d → YieldAt Fence.wide m Try.prog l #[.string x] W1 fun e W' => (e = .returned (.bool true) ∧ J (pre ++ [x]) W' ∧ Kp n₀ W1 W') ∨ (e = .returned (.bool false) ∧ Jx (pre ++ [x]) W')) :
    CallsIn Fence.wide n Try.prog 26 #[.func (.yield l) #[] #[], .pointer (some ⟨Bp, 0, none⟩)] W fun e W' => (∃ v, e = .returned v) ∧ ((∃ xs : List ByteArray, xs.length = allN d ∧ J xs W') ∨ (∃ pre : List ByteArray, True ∧ Jx pre W')) := by
  have hdd : ∀ k : Nat, (Fence.wide.depth.isSome = true → 1 ≤ k) := fun k h => by cases h
  have hbp : Bp < W.heap.size := World.block_lt_of_cell? W _ hp
  have htree := (callsIn_wide (n := n - 1)).2 (entity_tree.calls (W.alloc (.cells #[.func (.yield l) #[] #[]] 28)))
  replace htree := htree.mono (R' := fun e w1 => ∃ (b K : Nat) (blk mpb : List Nat → Nat), e = .returned (.pointer (some ⟨b, 0, none⟩)) ∧ Hid (b = blk []) ∧ w1.cell? ⟨Bp, 0, none⟩ = some (.string ⟨#[]⟩) ∧ Hid (TreeSt W n₀ l K blk mpb w1)) (by
    rintro e w1 ⟨K, Pf, Nm, blk, mpb, rfl, hT, hPf, hNm, hb⟩
    obtain rfl : Pf = PfL (tab.flatMap putOf) := funext hPf
    obtain rfl : Nm = NmL (tab.flatMap putOf) := funext hNm
    have hb1 : Below W.heap.size W w1 := ((Below.refl _ _).alloc (Nat.le_refl _) _).trans (hb.mono (by simp))
    exact ⟨_, K, blk, mpb, rfl, Lib.hid rfl, (hb1.cell (p := ⟨Bp, 0, none⟩) hbp).trans hp, Lib.hid ⟨hT.nmono (n₁ := n₀) (by simp; omega), hb1, (hb.block W.heap.size (by simp)).trans (heap_alloc_new W _)⟩⟩)
  refine callsIn_of_wp Try.func26 rfl trivial ?_ rfl
  simp only [Try.ntmps26, List.size_toArray, List.length_cons, List.length_nil, Nat.reduceAdd, Nat.reduceSub, Array.replicate_succ, Array.replicate_zero, List.push_toArray, List.append_toArray, List.nil_append, List.cons_append]
  gi_wp2_with ((try refine ⟨trivial, hdd _, ?_⟩); gi_at_call 27; refine htree.mono ?_; clear htree; rintro e w1 ⟨b, K, blk, mpb, rfl, HB, hp1, HT⟩)
  gi_loopw [3, 9] (fun v3 v9 wr => v3 = .pointer (some ⟨b, 0, none⟩) ∧ v9 = .int .i64 0 ∧ wr = w1) (fun _ _ _ => 0)
  case atStart => exact ⟨rfl, rfl, rfl⟩
  case round =>
    obtain ⟨rfl, rfl, hwr⟩ := hrel
    subst hwr
    have hbl : Bp < wr.heap.size := World.block_lt_of_cell? wr _ hp1
    have cn : (wr.alloc (.cells #[.nilFunc] 53)).cell? ⟨wr.heap.size, 0, none⟩ = some .nilFunc := (Boxed.new wr 53 .nilFunc).cell
    have fn : (wr.alloc (.cells #[.nilFunc] 53)).frozen? ⟨wr.heap.size, 0, none⟩ = false := (Boxed.new wr 53 .nilFunc).frozen
    obtain ⟨hW, hBe⟩ := HT.out.set hn
    have cp : (wr.alloc (wv W.heap.size wr.heap.size)).cell? ⟨Bp, 0, none⟩ = some (.string ⟨#[]⟩) := (hBe.cell (p := ⟨Bp, 0, none⟩) hbp).trans hp
    unfold wv at cp
    have hc := walk_all Fence.wide rfl trivial rfl l n₀ (allN d) K W.heap.size wr.heap.size J Jx hY _ _ blk mpb d 0 [] (by omega) (by rfl) (fun q hq _ => by simpa using hlong q hq) (n - 1) ⟨#[]⟩ [] _ (Nat.zero_le _) hW (hJ _ _ _ none h0 (grown_of_below hBe) (fun r e => by cases e)) (by simp [allN])
    unfold WalkOf wv at hc
    rw [← HB.out] at hc
    gi_wp2_with ((try refine ⟨trivial, hdd _, ?_⟩); gi_at_call 28; refine hc.mono ?_; clear hc; rintro e W3 (⟨rfl, ⟨ys, hys, hJ3⟩, hk3⟩ | ⟨rfl, ys, hx3⟩))
    · go_end0
      exact ⟨⟨_, rfl⟩, .inl ⟨ys, hys, by simpa using hJ3⟩⟩
    · go_end0
      exact ⟨⟨_, rfl⟩, .inr ⟨ys, trivial, by simpa using hx3⟩⟩

/-- What All hands back, ranged over: allN names come. -/
theorem all_stops (n Bp n₀ d : Nat) (hd9 : d ≤ 900) (hlong : ∀ q, PfL (tab.flatMap putOf) q = true → q.length ≤ d) (w : World) (hn : n₀ ≤ w.heap.size) (hp : w.cell? ⟨Bp, 0, none⟩ = some (.string ⟨#[]⟩)) :
    SeqStopsK Fence.wide n Try.prog 26 #[.pointer (some ⟨Bp, 0, none⟩)] (fun x : ByteArray => #[Value.string x]) (Kp n₀) (fun ys => ys.length = allN d) (fun _ => True) (allN d) w := fun l J Jx W hW hJ _ hY h0 =>
  all1_walk n l Bp n₀ d hd9 hlong J Jx W (Nat.le_trans hn hW.size) ((hW.cell (p := ⟨Bp, 0, none⟩) (World.block_lt_of_cell? w _ hp)).trans hp) hJ h0 (fun m pre x W1 hj hl => yieldAny rfl m (hY pre x W1 hj hl))

set_option maxHeartbeats 1000000 in
theorem All_in (n : Nat) (w : World) : CallsIn Fence.wide n Try.prog 17 #[.string ⟨#[]⟩] w fun e w' => e = .returned (.func (.func 26) #[] #[.pointer (some ⟨w.heap.size, 0, none⟩)]) ∧ w' = w.alloc (.cells #[.string ⟨#[]⟩] 9) := by
  refine callsIn_of_wp Try.func17 rfl trivial ?_ rfl
  simp only [Try.ntmps17, List.size_toArray, List.length_cons, List.length_nil, Nat.reduceAdd, Nat.reduceSub, Array.replicate_succ, Array.replicate_zero, List.push_toArray, List.append_toArray, List.nil_append, List.cons_append]
  gi_wp2
  go_ret
  exact ⟨rfl, rfl⟩
#print axioms all_stops
#print axioms All_in
end Tr
end Go.Proofs.Ytkinpihjjelcpaa.PE
