/- EntityNames: the law's walk. -/
import Derived.Test.YtkinpihjjelcpaaPN4
import Derived.Test.YtkinpihjjelcpaaPEName
import Derived.Test.YtkinpihjjelcpaaPLawA
import Derived.RangeFuncFrom
import Derived.Deep.RegionHeld3
namespace Go.Proofs.Ytkinpihjjelcpaa.PE
open Go.RowKit Go.Shelf Go.Proofs.YtkinpihjjelcpaaW.PrintWords Go.Proofs.YtkinpihjjelcpaaW.PrintLast Go.Proofs.YtkinpihjjelcpaaW.PrintMore
set_option linter.unusedSimpArgs false
set_option linter.unusedVariables false
namespace Tr
set_option maxHeartbeats 1000000 in
set_option maxRecDepth 100000 in
theorem Names.calls (w : World) : Calls Try.prog 18 #[] w fun e w' => (∃ A c, e = .returned (.slice A Tab.sorted.length c)) ∧ Below w.heap.size w w' := by
  go_enter Try.func18, Try.ntmps18
  go_wp2_with fail
  refine (sieveref05_Table.calls _).mono ?_
  rintro e w1 ⟨ps, v2, v3, rfl, hn, hv, hi, hp, hb⟩
  obtain ⟨g2, c2, rfl⟩ := Tab.own_succ (k := Tab.sorted.length - 1) (by have := RefName.sorted_length.1; rw [show Tab.sorted.length - 1 + 1 = Tab.sorted.length by omega]; exact hn)
  rw [show Tab.sorted.length - 1 + 1 = Tab.sorted.length by have := RefName.sorted_length.1; omega] at *
  have HB := Lib.hid hb
  clear hn hv hi hp hb
  go_wp2_with fail
  go_ret
  exact ⟨⟨_, _, rfl⟩, HB.out⟩
#print axioms Names.calls
theorem found : Law.find (⟨#[78, 111, 116, 69, 113, 117, 97, 108, 84, 105, 108, 100, 101, 59]⟩ : ByteArray).data.toList tab = ([8770, 824], true) := by decide +kernel
theorem find_called (W : World) : Calls Try.prog 7 #[.string ⟨#[78, 111, 116, 69, 113, 117, 97, 108, 84, 105, 108, 100, 101, 59]⟩] W fun e w1 =>
    ∃ g c, e = .returned (.tuple #[.slice (some ⟨g, 0, none⟩) 2 c, .bool true]) ∧ w1.cell? ⟨g, 0, none⟩ = some (.int .i32 8770) ∧ w1.cell? ⟨g, 1, none⟩ = some (.int .i32 824) ∧ Below W.heap.size W w1 := by
  refine (entity_Find.calls 302 _ [8770, 824] true W (by rw [Law.find_eq _ _ (by omega), found])).mono ?_
  rintro e w1 ⟨v, rfl, hR, hb⟩
  obtain ⟨inner, ho⟩ := Kd.R_own hR
  obtain ⟨g, c, rfl⟩ := Tab.own_succ (k := 1) ho
  obtain ⟨_, _, hC⟩ := Kd.R_reads' hR
  obtain ⟨ad, ea, c1⟩ := Kd.at_int hC 0 (by omega) (by decide)
  obtain ⟨ad', ea', c2⟩ := Kd.at_int hC 1 (by omega) (by decide)
  cases ea
  cases ea'
  exact ⟨g, c, rfl, c1, c2, hb⟩
attribute [local go_sem] Oper.semAt_some
theorem run_eql_func (w : World) (f : Fn) (cs : Array Value) : (binOp BinOp.eql 36 (Value.func f #[] cs) Value.nilFunc).run Try.prog w = .ok (.bool false) w := rfl
attribute [local go_sem] run_eql_func
/-- What the law's last line leans on, in whatever world it has come to. -/
structure Loc (w1 : World) (b N : Nat) (g : Nat) (w : World) : Prop where
  c0 : w.cell? ⟨b, 0, none⟩ = some (.int .i64 (N : Int))
  c1 : w.cell? ⟨g, 0, none⟩ = some (.int .i32 8770)
  c2 : w.cell? ⟨g, 1, none⟩ = some (.int .i32 824)
  be : Below w1.heap.size w1 w
section
variable {w1 w w' : World} {b N g : Nat}
theorem Loc.below (h : Loc w1 b N g w) (hb : Below w.heap.size w w') : Loc w1 b N g w' where
  c0 := (hb.cell (World.block_lt_of_cell? w _ h.c0)).trans h.c0
  c1 := (hb.cell (World.block_lt_of_cell? w _ h.c1)).trans h.c1
  c2 := (hb.cell (World.block_lt_of_cell? w _ h.c2)).trans h.c2
  be := h.be.trans (hb.mono h.be.size)
theorem Loc.drew (h : Loc w1 b N g w) : Loc w1 b N g w.drew := h.below (Below.refl _ _).drew
theorem namesC (hN : N = Tab.sorted.length) (w : World) (h : Hid (Loc w1 b N g w)) : Calls Try.prog 18 #[] w fun e w' => (∃ A c, e = .returned (.slice A N c)) ∧ w'.cell? ⟨b, 0, none⟩ = some (.int .i64 (N : Int)) ∧ w'.cell? ⟨g, 0, none⟩ = some (.int .i32 8770) ∧ w'.cell? ⟨g, 1, none⟩ = some (.int .i32 824) ∧ Hid (Loc w1 b N g w') := by
  refine (Names.calls w).mono ?_
  rintro e w' ⟨⟨A, c, rfl⟩, hb⟩
  have hL := h.out.below hb
  exact ⟨⟨A, c, by rw [hN]⟩, hL.c0, hL.c1, hL.c2, Lib.hid hL⟩
theorem entsC (w : World) (h : Hid (Loc w1 b N g w)) : Calls Try.prog 19 #[] w fun e w' => (∃ A c, e = .returned (.slice A 301 c)) ∧ w'.cell? ⟨b, 0, none⟩ = some (.int .i64 (N : Int)) ∧ w'.cell? ⟨g, 0, none⟩ = some (.int .i32 8770) ∧ w'.cell? ⟨g, 1, none⟩ = some (.int .i32 824) ∧ Hid (Loc w1 b N g w') := by
  refine (api_Entities.calls tab w rfl).mono ?_
  rintro e w' ⟨v, rfl, hR, hb⟩
  obtain ⟨A, c, rfl⟩ := Kd.R_slice hR
  have hL := h.out.below hb
  exact ⟨⟨A, c, by rw [tab_length]⟩, hL.c0, hL.c1, hL.c2, Lib.hid hL⟩
theorem livesC (w : World) (h : Hid (Loc w1 b N g w)) : Calls Try.prog 14 #[] w fun e w' => e = .returned (.bool true) ∧ w'.cell? ⟨b, 0, none⟩ = some (.int .i64 (N : Int)) ∧ w'.cell? ⟨g, 0, none⟩ = some (.int .i32 8770) ∧ w'.cell? ⟨g, 1, none⟩ = some (.int .i32 824) ∧ Hid (Loc w1 b N g w') := by
  refine (sievelaw05_lives.calls 603 true w (Law.lives_eq _ (by omega))).mono ?_
  rintro e w' ⟨rfl, hb⟩
  have hL := h.out.below hb
  exact ⟨rfl, hL.c0, hL.c1, hL.c2, Lib.hid hL⟩
end
theorem Kp.set {n₀ b : Nat} (h : b < n₀) (W : World) (v : Value) : Kp n₀ W (W.setCell ⟨b, 0, none⟩ v) :=
  ⟨by show W.heap.size ≤ (W.heap.modify _ _).size; rw [Array.size_modify]; exact Nat.le_refl _, fun i o hi ho _ => (Below.heap_setCell W ⟨b, 0, none⟩ v i (by show i ≠ b; omega)).trans ho⟩
theorem Kp.book {n₀ : Nat} (W : World) (l : Nat) (o o' : Obj) (ho : W.heap[l]? = some o) (h1 : o.isCells = false) (h2 : o.isWalk = false) : Kp n₀ W (W.putObj l o') :=
  ⟨by simp, fun i x _ hx hc => by
    by_cases e : i = l
    · subst e
      rw [ho] at hx
      cases hx
      rcases hc with hc | hc
      · rw [h1] at hc; cases hc
      · rw [h2] at hc; cases hc
    · exact (World.putObj_heap_other e).trans hx⟩
set_option maxHeartbeats 4000000 in
set_option maxRecDepth 100000 in
theorem law_in (n : Nat) (hn : 3 ≤ n) (w : World) (hlong : ∀ q, PfL (tab.flatMap putOf) q = true → q.length ≤ 101) (hcount : allN 101 = Tab.sorted.length) :
    CallsIn Fence.wide n Try.prog 6 #[] w fun e w' => e = .returned (.bool true) ∧ Below w.heap.size w w' := by
  have hdd : ∀ k : Nat, (Fence.wide.depth.isSome = true → 1 ≤ k) := fun k h => by cases h
  have h1 : 1 ≤ n := by omega
  refine callsIn_of_wp_marks Try.func6 rfl trivial ?_ rfl
  simp only [Try.ntmps6, List.size_toArray, List.length_cons, List.length_nil, Nat.reduceAdd, Nat.reduceSub, Array.replicate_succ, Array.replicate_zero, List.push_toArray, List.append_toArray, List.nil_append, List.cons_append]
  gi_wp2_with ((first | refine ⟨trivial, hdd _, ?_⟩ | refine ⟨trivial, ?_⟩); gi_at_call 17; refine (All_in (n - 1) _).mono ?_; rintro e w' ⟨rfl, rfl⟩)
  have hP := Boxed.new w 9 (.string ⟨#[]⟩)
  have hP2 : Boxed ((w.alloc (.cells #[.string ⟨#[]⟩] 9)).alloc (.cells #[.int .i64 0] 3)) w.heap.size 9 (.string ⟨#[]⟩) := hP.alloc _
  have hC := Boxed.new (w.alloc (.cells #[.string ⟨#[]⟩] 9)) 3 (.int .i64 0)
  rw [World.size_alloc] at hC
  have hB0 : Below w.heap.size w ((w.alloc (.cells #[.string ⟨#[]⟩] 9)).alloc (.cells #[.int .i64 0] 3)) := ((Below.refl _ w).alloc (Nat.le_refl _) _).alloc (by simp) _
  have hNle : allN 101 ≤ 1000 := by rw [hcount]; exact RefName.sorted_length.2
  refine wpIn_rangeFunc_ownF (F := Fence.wide) rfl h1 (gf := 26) (lb := #[.pointer (some ⟨w.heap.size, 0, none⟩)]) rfl trivial (enters_of Try.func26 (by kernel_rfl) rfl)
    (all_stops (n - 1) w.heap.size (w.heap.size + 2) 101 (by omega) hlong _ (by simp) hP2.cell) Kp.trans (fun W l o o' _ h h1 h2 => Kp.book W l o o' h h1 h2) (Below.refl _ _) (fun _ => rfl)
    (fun pre W => (W.cell? ⟨w.heap.size + 1, 0, none⟩ = some (.int .i64 (pre.length : Int)) ∧ W.frozen? ⟨w.heap.size + 1, 0, none⟩ = false) ∧ Below w.heap.size w W)
    (fun _ _ _ => False)
    (OwnFrom.and (Own.from (fun s A B row hs hg hr => ⟨cell_kept hs.1 hg hr, (frozen_kept hs.1 hg hr).trans hs.2⟩) _) (ownFrom_below (Nat.le_refl _) (by simp; omega)))
    (fun _ _ _ _ _ hs _ _ => hs)
    ⟨⟨hC.cell, hC.frozen⟩, hB0⟩
    (fun x => { tmps := #[.bool false, .pointer (some ⟨w.heap.size + 1, 0, none⟩), .func (.func 26) #[] #[.pointer (some ⟨w.heap.size, 0, none⟩)], undef, undef, .func (.func 26) #[] #[.pointer (some ⟨w.heap.size, 0, none⟩)], .func (.func 26) #[] #[.pointer (some ⟨w.heap.size, 0, none⟩)], .bool false, .func (.func 26) #[] #[.pointer (some ⟨w.heap.size, 0, none⟩)], .string x, undef, undef, undef, undef, undef, undef, undef, undef, undef, undef, undef, undef, undef, undef, undef, undef, undef, undef, undef, undef, undef, undef, undef, undef, undef, undef, undef, undef, undef, undef, undef, undef, undef, undef, undef, undef, undef, undef], defers := [] }) ?assign ?body ?done ?stop
  case assign =>
    intro l x W K hK
    gi_wp2
    exact hK
  case body =>
    rintro l pre x W ⟨⟨hc, hf⟩, hB⟩ hlt
    have hle : pre.length < 1000 := by omega
    gi_wp2
    exact ⟨KeepsOthers.setCell _ _ _, Kp.set (by omega) W _, ⟨by
      rw [List.length_append, List.length_singleton, Int.natCast_add]
      exact World.cell?_setCell_same' _ _ _ (by rw [hc]; rfl), by rw [World.frozen?_setCell]; exact hf⟩, hB.setCell (p := ⟨w.heap.size + 1, 0, none⟩) (Nat.le_succ _) _⟩
  case done =>
    rintro D ys W hD hys ⟨⟨hc, hf⟩, hB⟩ hK
    rw [hys, hcount] at hc
    have HB := Lib.hid hB
    have HK := Lib.hid hK
    have HD := Lib.hid hD
    obtain ⟨b, hb⟩ : ∃ b, b = w.heap.size + 1 := ⟨_, rfl⟩
    rw [← hb] at hc ⊢
    have hbW : b < W.heap.size := World.block_lt_of_cell? W _ hc
    have hfind := find_called W
    replace hfind := hfind.mono (R' := fun e w1 => ∃ g c, e = .returned (.tuple #[.slice (some ⟨g, 0, none⟩) 2 c, .bool true]) ∧ w1.cell? ⟨b, 0, none⟩ = some (.int .i64 (Tab.sorted.length : Int)) ∧ w1.cell? ⟨g, 0, none⟩ = some (.int .i32 8770) ∧ w1.cell? ⟨g, 1, none⟩ = some (.int .i32 824) ∧ Hid (Below W.heap.size W w1)) (by
      rintro e w1 ⟨g, c, rfl, h1, h2, hbe⟩
      exact ⟨g, c, rfl, (hbe.cell (p := ⟨b, 0, none⟩) hbW).trans hc, h1, h2, Lib.hid hbe⟩)
    replace hfind := (callsIn_wide (n := n - 1)).2 hfind
    clear hB hK hD hf hys hcount hNle hlong hP hP2 hC hB0
    gi_wp2_with ((first | refine ⟨trivial, hdd _, ?_⟩ | refine ⟨trivial, ?_⟩); gi_at_call 7; refine hfind.mono ?_; clear hfind; rintro e w1 ⟨g, c, rfl, hcb, hc1, hc2, HB1⟩)
    obtain ⟨N, hN⟩ : ∃ N, N = Tab.sorted.length := ⟨_, rfl⟩
    subst hb
    rw [← hN] at hcb
    have HN := Lib.hid hN
    have HL := Lib.hid (⟨hcb, hc1, hc2, Below.refl _ _⟩ : Loc w1 (w.heap.size + 1) N g w1)
    clear hN hc
    refine wpIn_wide.2 ?_
    refine wp_region_noPanic ?_
    go_region_held3 (fun w' => w'.cell? ⟨w.heap.size + 1, 0, none⟩ = some (.int .i64 (N : Int)) ∧ w'.cell? ⟨g, 0, none⟩ = some (.int .i32 8770) ∧ w'.cell? ⟨g, 1, none⟩ = some (.int .i32 824)) (first | (exact ⟨by assumption, by assumption, by assumption⟩) | go_keep) (first
      | (go_at_call 18; refine (namesC HN.out _ (by first | exact HL | exact Lib.hid HL.out.drew)).mono ?_; rintro e w2 ⟨⟨A2, c2, rfl⟩, hcb2, hc12, hc22, HL2⟩)
      | (go_at_call 19; refine (entsC _ HL2).mono ?_; rintro e w3 ⟨⟨A3, c3, rfl⟩, hcb3, hc13, hc23, HL3⟩)
      | (go_at_call 14; refine (livesC _ HL3).mono ?_; rintro e w4 ⟨rfl, hcb4, hc14, hc24, HL4⟩))
    refine NoPanic.normal ?_
    have hDl : D < W.heap.size := (Array.getElem?_eq_some_iff.1 HK.out).1
    have hb1 := HB1.out
    have hb4 := HL4.out.be
    have hK1 : w1.heap[D]? = some (.deferred (some [])) := (hb1.block D hDl).trans HK.out
    have hK4 : w4.heap[D]? = some (.deferred (some [])) := (hb4.block D (Array.getElem?_eq_some_iff.1 hK1).1).trans hK1
    have hBw : Below w.heap.size w w4 := (HB.out.trans (hb1.mono HB.out.size)).trans (hb4.mono (Nat.le_trans HB.out.size hb1.size))
    have hD2 : w.heap.size ≤ D := by have := HD.out; simp at this; omega
    have HF := Lib.hid (And.intro hK4 (And.intro hBw hD2))
    clear hDl hb1 hb4 hK1 hK4 hBw hD2 hcb hc1 hc2 hcb2 hc12 hc22 hcb3 hc13 hc23 hcb4 hc14 hc24 HL HL2 HL3 HL4 HB HK HD HB1
    gi_wp2
    refine ⟨by simp, .inl ⟨_, _, rfl, run_takeDeferred HF.out.1, ?_⟩⟩
    exact ⟨_, results_tmp rfl _ _ _, rfl, HF.out.2.1.trans (belowK_b (w := w) (Nat.le_refl _) w4 D _ _ HF.out.2.2 HF.out.1 rfl rfl)⟩
  case stop =>
    rintro D c pre W _ _ h _
    exact h.elim
end Tr
end Go.Proofs.Ytkinpihjjelcpaa.PE
