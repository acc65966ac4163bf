-- PRINTED by print.py (a twelfth state) out of the translation; one function of its text, split off by splitprint.py and mended by patch10.py. Not trusted: Lean checks it.
import Derived.Test.YtkinpihjjelcpaaPEEnt
import Derived.Test.YtkinpihjjelcpaaPEf21
import Derived.Test.YtkinpihjjelcpaaPEf23
namespace Go.Proofs.Ytkinpihjjelcpaa.PE
open Go.RowKit Go.Proofs.YtkinpihjjelcpaaW.PrintWords Go.Proofs.YtkinpihjjelcpaaW.PrintLast Go.Proofs.YtkinpihjjelcpaaW.PrintMore
attribute [local go_sem] max2_int min2_int max_two min_two max_three min_three max_four min_four   -- for this text's walks alone
set_option linter.unusedVariables false
set_option linter.unusedSimpArgs false

/-! ### sieveref05_Longest: function 10 -/
mutual
def sieveref05_Longest.l0 : Nat → ByteArray → Int → List Int → List (S43) → Int → Int → Option (Int × List Int)
  | 0, _, _, _, _, _, _ => none
  | k + 1, x0, x4, x5, x9, x10, x11 => if x11 < x10 then (if 0 ≤ x11 then (if x11 < (x9.length : Int) then ((sieveref05_Prefix.f x0 ((rd_T43 x9 x11).f0)).bind fun t158 => (if t158 = true then (if (rd_T43 x9 x11).f3 = true then (sieveref05_Longest.j1 k x0 x4 x5 (((rd_T43 x9 x11).f0).size : Int) x9 x10 x11 (decide ((((rd_T43 x9 x11).f0).size : Int) > x4)) ((rd_T43 x9 x11).f0) ((rd_T43 x9 x11).f1) ((rd_T43 x9 x11).f2) ((rd_T43 x9 x11).f3)) else (sieveref05_Longest.j1 k x0 x4 x5 (((rd_T43 x9 x11).f0).size : Int) x9 x10 x11 false ((rd_T43 x9 x11).f0) ((rd_T43 x9 x11).f1) ((rd_T43 x9 x11).f2) ((rd_T43 x9 x11).f3))) else (sieveref05_Longest.l0 k x0 x4 x5 x9 x10 (wrap64 (x11 + 1))))) else (none)) else (none)) else (some (x4, x5))
def sieveref05_Longest.j1 : Nat → ByteArray → Int → List Int → Int → List (S43) → Int → Int → Bool → ByteArray → Int → Int → Bool → Option (Int × List Int)
  | 0, _, _, _, _, _, _, _, _, _, _, _, _ => none
  | k + 1, x0, x4, x5, x8, x9, x10, x11, x29, x158000, x158001, x158002, x158003 => if x29 = true then ((sieveref05_says.f x158000 x158001 x158002 x158003).bind fun t159 => (if x8 < (x0.size : Int) then (if 0 ≤ x8 then (if (bt x0 x8) = 59 then (if (wrap64 (x8 + 1)) > x8 then ((sieveref05_says.f x158000 x158001 x158002 x158003).bind fun t162 => (sieveref05_Longest.l0 k x0 (wrap64 (x8 + 1)) t162 x9 x10 (wrap64 (x11 + 1)))) else (sieveref05_Longest.l0 k x0 x8 t159 x9 x10 (wrap64 (x11 + 1)))) else (sieveref05_Longest.l0 k x0 x8 t159 x9 x10 (wrap64 (x11 + 1)))) else (none)) else (sieveref05_Longest.l0 k x0 x8 t159 x9 x10 (wrap64 (x11 + 1))))) else (if x8 < (x0.size : Int) then (if 0 ≤ x8 then (if (bt x0 x8) = 59 then (if (wrap64 (x8 + 1)) > x4 then ((sieveref05_says.f x158000 x158001 x158002 x158003).bind fun t165 => (sieveref05_Longest.l0 k x0 (wrap64 (x8 + 1)) t165 x9 x10 (wrap64 (x11 + 1)))) else (sieveref05_Longest.l0 k x0 x4 x5 x9 x10 (wrap64 (x11 + 1)))) else (sieveref05_Longest.l0 k x0 x4 x5 x9 x10 (wrap64 (x11 + 1)))) else (none)) else (sieveref05_Longest.l0 k x0 x4 x5 x9 x10 (wrap64 (x11 + 1))))
end
def sieveref05_Longest.f (k : Nat) (a0 : ByteArray) : Option (Int × List Int) := (api_Entities.f).bind fun t153 => (sieveref05_Longest.l0 k a0 0 ([] : List Int) t153 (t153.length : Int) 0)
theorem sieveref05_Longest.mono_l : ∀ k, (∀ y0 y1 y2 y3 y4 y5, LeO (sieveref05_Longest.l0 k y0 y1 y2 y3 y4 y5) (sieveref05_Longest.l0 (k + 1) y0 y1 y2 y3 y4 y5)) ∧ (∀ y0 y1 y2 y3 y4 y5 y6 y7 y8 y9 y10 y11, LeO (sieveref05_Longest.j1 k y0 y1 y2 y3 y4 y5 y6 y7 y8 y9 y10 y11) (sieveref05_Longest.j1 (k + 1) y0 y1 y2 y3 y4 y5 y6 y7 y8 y9 y10 y11))
  | 0 => ⟨fun _ _ _ _ _ _ r h => by simp [sieveref05_Longest.l0] at h, fun _ _ _ _ _ _ _ _ _ _ _ _ r h => by simp [sieveref05_Longest.j1] at h⟩
  | k + 1 => by
    obtain ⟨ih0, ih1⟩ := sieveref05_Longest.mono_l k
    refine ⟨?_, ?_⟩
    · intro y0 y1 y2 y3 y4 y5
      unfold sieveref05_Longest.l0
      repeat' first
      | (with_reducible exact ih0 _ _ _ _ _ _)
      | (with_reducible exact ih1 _ _ _ _ _ _ _ _ _ _ _ _)
      | (with_reducible exact LeO.refl _)
      | (with_reducible exact LeO.none _)
      | (with_reducible refine LeO.ite ?_ ?_)
      | (with_reducible refine LeO.bind ?_ (fun _ => ?_))
      | exact ih0 _ _ _ _ _ _
      | exact ih1 _ _ _ _ _ _ _ _ _ _ _ _
      | exact LeO.none _
      | refine LeO.ite ?_ ?_
      | refine LeO.bind ?_ (fun _ => ?_)
    · intro y0 y1 y2 y3 y4 y5 y6 y7 y8 y9 y10 y11
      unfold sieveref05_Longest.j1
      repeat' first
      | (with_reducible exact ih0 _ _ _ _ _ _)
      | (with_reducible exact ih1 _ _ _ _ _ _ _ _ _ _ _ _)
      | (with_reducible exact LeO.refl _)
      | (with_reducible exact LeO.none _)
      | (with_reducible refine LeO.ite ?_ ?_)
      | (with_reducible refine LeO.bind ?_ (fun _ => ?_))
      | exact ih0 _ _ _ _ _ _
      | exact ih1 _ _ _ _ _ _ _ _ _ _ _ _
      | exact LeO.none _
      | refine LeO.ite ?_ ?_
      | refine LeO.bind ?_ (fun _ => ?_)
theorem sieveref05_Longest.mono : ∀ a0 k, LeO (sieveref05_Longest.f k a0) (sieveref05_Longest.f (k + 1) a0) := by
  intro a0 k
  obtain ⟨ih0, ih1⟩ := sieveref05_Longest.mono_l k
  unfold sieveref05_Longest.f
  repeat' first
      | (with_reducible exact ih0 _ _ _ _ _ _)
      | (with_reducible exact ih1 _ _ _ _ _ _ _ _ _ _ _ _)
      | (with_reducible exact LeO.refl _)
      | (with_reducible exact LeO.none _)
      | (with_reducible refine LeO.ite ?_ ?_)
      | (with_reducible refine LeO.bind ?_ (fun _ => ?_))
      | exact ih0 _ _ _ _ _ _
      | exact ih1 _ _ _ _ _ _ _ _ _ _ _ _
      | exact LeO.none _
      | refine LeO.ite ?_ ?_
      | refine LeO.bind ?_ (fun _ => ?_)
set_option maxHeartbeats 8000000 in
set_option maxRecDepth 100000 in
theorem sieveref05_Longest.calls (k : Nat) (a0 : ByteArray) (r1 : Int) (r2 : List Int) (w : World) (h : sieveref05_Longest.f k a0 = some (r1, r2)) :
    Calls Try.prog 10 #[.string a0] w fun e w' => ∃ v1_ : Value, e = .returned (.tuple #[.int .i64 r1, v1_]) ∧ Kd.R (Kd.int .i32) 21 w' w.heap.size (fun _ => True) v1_ r2 ∧ Below w.heap.size w w' := by
  have hu43 := Try.underlying43
  have HB := Aside0.mk (Below.refl w.heap.size w)
  have H : ((api_Entities.f).bind fun t153 => (sieveref05_Longest.l0 k a0 0 ([] : List Int) t153 (t153.length : Int) 0)) = some (r1, r2) := h
  clear h
  replace H := Option.bind_eq_some_iff.mp H
  obtain ⟨t153, A20, H⟩ := H
  replace H : (sieveref05_Longest.l0 k a0 0 ([] : List Int) t153 (t153.length : Int) 0) = some (r1, r2) := H
  have A2 := Aside0.mk A20
  clear A20
  have H' := Aside0.mk H
  clear H
  go_enter Try.func10, Try.ntmps10
  go_wp2_with (first | ((with_reducible refine gate_callee (f := 19) rfl ?_); refine goesL_ (some 9) rfl rfl Try.func19 (by kernel_rfl) rfl #[] rfl (by (try simp only [List.map_toArray, List.map_cons, List.map_nil]); first | done | rfl | (simp only [List.length_drop, List.length_take]; rfl)) ?_; (with_reducible refine (api_Entities.calls  t153 _ A2.out).mono ?_); rintro e w3 ⟨v154, rfl, ho0, hb⟩; refine ⟨_, rfl, ?_⟩; have n0_ := Aside0.mk (Kd.R_lower ho0 (below_size (by repeat (first | (with_reducible first | exact HB.out | apply below_alloc | apply pw_below_drewN | apply below_drew1) | exact HB.out)))); have n1_ := Aside0.mk (below_step (by repeat (first | (with_reducible first | exact HB.out | apply below_alloc | apply pw_below_drewN | apply below_drew1) | exact HB.out)) hb); clear HB; have HO155 := n0_; have HB := n1_; clear n0_ n1_; (try clear hb); (try clear hb2); (try clear hk); (try clear hi); (try clear ho0); obtain ⟨Ao4, co4, eo4⟩ := Kd.R_slice HO155.out; subst eo4))
  go_loopg [4, 5, 11] k (fun kq v4 v5 v11 w' => ∃ (x4_1 : Int) (x5_1 : List Int) (x11_1 : Int), v4 = .int .i64 x4_1 ∧ v11 = .int .i64 x11_1 ∧ Aside0 (sieveref05_Longest.l0 kq a0 x4_1 x5_1 t153 (t153.length : Int) x11_1 = some (r1, r2)) ∧ Aside0 (kq ≤ k) ∧ Aside0 (Kd.R (Kd.int .i32) 21 w' w.heap.size (fun _ => True) v5 x5_1) ∧ Aside0 (Kd.R k43 43 w' w.heap.size (fun _ => True) (.slice Ao4 t153.length co4) t153) ∧ Aside0 (Below w.heap.size w w'))
  case atStart => exact ⟨(0), (([] : List Int)), (0), (by first | rfl | (simp; done) | (simp [*]; done)), (by first | rfl | (simp; done) | (simp [*]; done)), H', ⟨Nat.le_refl _⟩, ⟨by first | exact Kd.R_nil _ _ _ _ _ | exact Kd.N_nil _ _ _ _ _ | exact Kd.V_nil _ _ _ _ _ | exact Kd.Q_nil _ _ _ _ _ | exact Kd.S_nil _ _ _ _ _⟩, ⟨by (with_reducible repeat (first | apply Kd.R_alloc | apply Kd.R_drewN | apply Kd.R_drew)); exact HO155.out⟩, ⟨by repeat (first | (with_reducible first | exact HB.out | apply below_alloc | apply pw_below_drewN | apply below_drew1) | exact HB.out)⟩⟩
  case round =>
    clear H'
    try clear c1
    try clear p2
    obtain ⟨x4_1, x5_1, x11_1, rfl, rfl, HA, HK1, HO_5, HO_9, HB⟩ := hrel
    cases gk with
    | zero => exact absurd HA.out (by simp [sieveref05_Longest.l0])
    | succ k1 =>
      have H := HA.out
      clear HA
      simp only [sieveref05_Longest.l0] at H
      by_cases c5 : x11_1 < (t153.length : Int)
      · rw [if_pos c5] at H
        have c5b0 : decide (x11_1 < (t153.length : Int)) = true := decide_eq_true c5
        clear c5
        by_cases c6 : 0 ≤ x11_1
        · rw [if_pos c6] at H
          have c6b0 : decide (0 ≤ x11_1) = true := decide_eq_true c6
          clear c6
          by_cases c7 : x11_1 < (t153.length : Int)
          · rw [if_pos c7] at H
            have c7b0 : decide (x11_1 < (t153.length : Int)) = true := decide_eq_true c7
            clear c7
            replace H := Option.bind_eq_some_iff.mp H
            obtain ⟨t158, A80, H⟩ := H
            replace H : (if t158 = true then (if (rd_T43 t153 x11_1).f3 = true then (sieveref05_Longest.j1 k1 a0 x4_1 x5_1 (((rd_T43 t153 x11_1).f0).size : Int) t153 (t153.length : Int) x11_1 (decide ((((rd_T43 t153 x11_1).f0).size : Int) > x4_1)) ((rd_T43 t153 x11_1).f0) ((rd_T43 t153 x11_1).f1) ((rd_T43 t153 x11_1).f2) ((rd_T43 t153 x11_1).f3)) else (sieveref05_Longest.j1 k1 a0 x4_1 x5_1 (((rd_T43 t153 x11_1).f0).size : Int) t153 (t153.length : Int) x11_1 false ((rd_T43 t153 x11_1).f0) ((rd_T43 t153 x11_1).f1) ((rd_T43 t153 x11_1).f2) ((rd_T43 t153 x11_1).f3))) else (sieveref05_Longest.l0 k1 a0 x4_1 x5_1 t153 (t153.length : Int) (wrap64 (x11_1 + 1)))) = some (r1, r2) := H
            have A8 := Aside0.mk A80
            clear A80
            by_cases c9 : t158 = true
            · subst c9
              have H1 : (if (rd_T43 t153 x11_1).f3 = true then (sieveref05_Longest.j1 k1 a0 x4_1 x5_1 (((rd_T43 t153 x11_1).f0).size : Int) t153 (t153.length : Int) x11_1 (decide ((((rd_T43 t153 x11_1).f0).size : Int) > x4_1)) ((rd_T43 t153 x11_1).f0) ((rd_T43 t153 x11_1).f1) ((rd_T43 t153 x11_1).f2) ((rd_T43 t153 x11_1).f3)) else (sieveref05_Longest.j1 k1 a0 x4_1 x5_1 (((rd_T43 t153 x11_1).f0).size : Int) t153 (t153.length : Int) x11_1 false ((rd_T43 t153 x11_1).f0) ((rd_T43 t153 x11_1).f1) ((rd_T43 t153 x11_1).f2) ((rd_T43 t153 x11_1).f3))) = some (r1, r2) := by rw [if_pos rfl] at H; exact H
              clear H
              have H := H1
              clear H1
              have HC10 := Aside0.mk H
              clear H
              have p156 : 0 ≤ (x11_1 : Int) := of_decide_eq_true (by first | (with_reducible assumption) | assumption)
              have q156 : x11_1 < (t153.length : Int) := of_decide_eq_true (by first | (with_reducible assumption) | assumption)
              obtain ⟨ad156, e156, hx156_0, hx156_1, hx156_2, hx156_3⟩ := at_T43 (Kd.R_reads' HO_9.out).2.2 x11_1 p156 q156
              cases e156
              replace p156 := eq_true p156
              replace q156 := eq_true q156
              go_upto_region 7 with (first | ((with_reducible refine gate_dst (N := 7) rfl ?_); refine box_event ?hg (N := 7) ?hd (cs := #[.string (⟨#[]⟩ : ByteArray), .int .i32 0, .int .i32 0, .bool false]) (t := 43) ?hr ?_; (case hd => rfl); (case hg => rfl); (case hr => first | (go_simp; done) | (go_simp; rfl)); intro gb157 hg w11 hbox hb; have n0_ := Aside0.mk (Kd.R_below (by (with_reducible repeat (first | apply Kd.R_alloc | apply Kd.R_drewN | apply Kd.R_drew)); exact HO_5.out) hb); have n1_ := Aside0.mk (Kd.R_below (Kd.R_elderB (by (with_reducible repeat (first | apply Kd.R_alloc | apply Kd.R_drewN | apply Kd.R_drew)); exact HO_9.out) gb157 (Nat.le_of_eq hg.symm)) hb); have n2_ := Aside0.mk (below_step (by repeat (first | (with_reducible first | exact HB.out | apply below_alloc | apply pw_below_drewN | apply below_drew1) | exact HB.out)) hb); have n3_ := Aside0.mk (hbox); have n4_ := Aside0.mk ((by rw [hg]; exact (below_size (by repeat (first | (with_reducible first | exact HB.out | apply below_alloc | apply pw_below_drewN | apply below_drew1) | exact HB.out))) : w.heap.size ≤ gb157)); have n5_ := Aside0.mk ((by rw [hg]; exact (below_size (by repeat (first | (with_reducible first | exact HB.out | apply below_alloc | apply pw_below_drewN | apply below_drew1) | exact HB.out))) : w.heap.size ≤ gb157)); clear HO_5; clear HO_9; clear HB; have HO_5 := n0_; have HO_9 := n1_; have HB := n2_; have BK157 := n3_; have GW157 := n4_; have GE157 := n5_; clear n0_ n1_ n2_ n3_ n4_ n5_; clear hb hbox hg; have hcz12_0 : w11.cell? ⟨gb157, 0, none⟩ = some (.string (⟨#[]⟩ : ByteArray)) := (blk_cell BK157.out 0).trans rfl; have hcz12_1 : w11.cell? ⟨gb157, 1, none⟩ = some (.int .i32 0) := (blk_cell BK157.out 1).trans rfl; have hcz12_2 : w11.cell? ⟨gb157, 2, none⟩ = some (.int .i32 0) := (blk_cell BK157.out 2).trans rfl; have hcz12_3 : w11.cell? ⟨gb157, 3, none⟩ = some (.bool false) := (blk_cell BK157.out 3).trans rfl; have hfz12_0 := blk_frozen BK157.out 0; have hfz12_1 := blk_frozen BK157.out 1; have hfz12_2 := blk_frozen BK157.out 2; have hfz12_3 := blk_frozen BK157.out 3) | ((with_reducible refine gate_callee (f := 23) rfl ?_); refine goesL_ (some 21) rfl rfl Try.func23 (by kernel_rfl) rfl #[.string a0, .string ((rd_T43 t153 x11_1).f0)] rfl (by (try simp only [List.map_toArray, List.map_cons, List.map_nil]); first | done | rfl | (simp only [List.length_drop, List.length_take]; rfl)) ?_; (with_reducible refine (sieveref05_Prefix.calls a0 ((rd_T43 t153 x11_1).f0) true _ A8.out).mono ?_); rintro e w' ⟨rfl, ⟨nd, rfl⟩⟩; refine ⟨_, rfl, ?_⟩))
              (try simp only [Act.put, List.setIfInBounds_toArray, List.set_cons_zero, List.set_cons_succ])
              go_cut [29] (fun v29 wc => ∃ (kq : Nat) (x29_9 : Bool), v29 = .bool x29_9 ∧ Aside0 (sieveref05_Longest.j1 kq a0 x4_1 x5_1 (((rd_T43 t153 x11_1).f0).size : Int) t153 (t153.length : Int) x11_1 x29_9 ((rd_T43 t153 x11_1).f0) ((rd_T43 t153 x11_1).f1) ((rd_T43 t153 x11_1).f2) ((rd_T43 t153 x11_1).f3) = some (r1, r2)) ∧ Aside0 (kq ≤ k1) ∧ Aside0 (Kd.R (Kd.int .i32) 21 wc w.heap.size (fun _ => True) u5 x5_1) ∧ Aside0 (Kd.R k43 43 wc w.heap.size (fun k_ => k_ ≠ gb157) (.slice (some ad156) t153.length co4) t153) ∧ Aside0 (wc.heap[gb157]? = some (.cells #[.string ((rd_T43 t153 x11_1).f0), .int .i32 ((rd_T43 t153 x11_1).f1), .int .i32 ((rd_T43 t153 x11_1).f2), .bool ((rd_T43 t153 x11_1).f3)] 43 (0, 0))) ∧ Aside0 (Below w.heap.size w wc))
              case first =>
                have H := HC10.out
                clear HC10
                obtain ⟨bq13, hbq13⟩ : ∃ b_ : Bool, b_ = ((rd_T43 t153 x11_1).f3) := ⟨_, rfl⟩
                replace H : (if bq13 = true then (sieveref05_Longest.j1 k1 a0 x4_1 x5_1 (((rd_T43 t153 x11_1).f0).size : Int) t153 (t153.length : Int) x11_1 (decide ((((rd_T43 t153 x11_1).f0).size : Int) > x4_1)) ((rd_T43 t153 x11_1).f0) ((rd_T43 t153 x11_1).f1) ((rd_T43 t153 x11_1).f2) bq13) else (sieveref05_Longest.j1 k1 a0 x4_1 x5_1 (((rd_T43 t153 x11_1).f0).size : Int) t153 (t153.length : Int) x11_1 false ((rd_T43 t153 x11_1).f0) ((rd_T43 t153 x11_1).f1) ((rd_T43 t153 x11_1).f2) bq13)) = some (r1, r2) := by rw [← hbq13] at H; exact H
                have Nbq13 := Aside0.mk hbq13
                clear hbq13
                (try rw [← Nbq13.out])
                by_cases c14 : bq13 = true
                · subst c14
                  have H1 : (sieveref05_Longest.j1 k1 a0 x4_1 x5_1 (((rd_T43 t153 x11_1).f0).size : Int) t153 (t153.length : Int) x11_1 (decide ((((rd_T43 t153 x11_1).f0).size : Int) > x4_1)) ((rd_T43 t153 x11_1).f0) ((rd_T43 t153 x11_1).f1) ((rd_T43 t153 x11_1).f2) true) = some (r1, r2) := by rw [if_pos rfl] at H; exact H
                  clear H
                  have H := H1
                  clear H1
                  have H' := Aside0.mk H
                  clear H
                  have hcz15_0 : w11.cell? ⟨gb157, 0, none⟩ = some (.string (⟨#[]⟩ : ByteArray)) := (blk_cell BK157.out 0).trans rfl
                  have hcz15_1 : w11.cell? ⟨gb157, 1, none⟩ = some (.int .i32 0) := (blk_cell BK157.out 1).trans rfl
                  have hcz15_2 : w11.cell? ⟨gb157, 2, none⟩ = some (.int .i32 0) := (blk_cell BK157.out 2).trans rfl
                  have hcz15_3 : w11.cell? ⟨gb157, 3, none⟩ = some (.bool false) := (blk_cell BK157.out 3).trans rfl
                  have hfz15_0 := blk_frozen BK157.out 0
                  have hfz15_1 := blk_frozen BK157.out 1
                  have hfz15_2 := blk_frozen BK157.out 2
                  have hfz15_3 := blk_frozen BK157.out 3
                  go_wp2
                  go_meet
                  case rel => exact ⟨_, (decide ((((rd_T43 t153 x11_1).f0).size : Int) > x4_1)), (by first | rfl | (simp; done) | (simp [*]; done)), ⟨by rw [← Nbq13.out]; exact H'.out⟩, ⟨by have := HK1.out; first | omega | exact Nat.le_refl _⟩, ⟨by (with_reducible repeat (first | apply Kd.R_alloc | apply Kd.R_drewN | apply Kd.R_drew)); exact Kd.R_mono (Kd.R_far (p := ⟨gb157, 3, none⟩) (Kd.R_far (p := ⟨gb157, 2, none⟩) (Kd.R_far (p := ⟨gb157, 1, none⟩) (Kd.R_far (p := ⟨gb157, 0, none⟩) (Kd.R_types HO_5.out BK157.out (by decide)) (fun _ hk => hk.2) (.string ((rd_T43 t153 x11_1).f0))) (fun _ hk => hk.2) (.int .i32 ((rd_T43 t153 x11_1).f1))) (fun _ hk => hk.2) (.int .i32 ((rd_T43 t153 x11_1).f2))) (fun _ hk => hk.2) (.bool (true))) (fun _ hk => trivial)⟩, ⟨by (with_reducible repeat (first | apply Kd.R_alloc | apply Kd.R_drewN | apply Kd.R_drew)); exact Kd.R_mono (Kd.R_far (p := ⟨gb157, 3, none⟩) (Kd.R_far (p := ⟨gb157, 2, none⟩) (Kd.R_far (p := ⟨gb157, 1, none⟩) (Kd.R_far (p := ⟨gb157, 0, none⟩) (Kd.R_mono HO_9.out (fun k_ hk => (⟨hk, hk.2⟩ : _ ∧ k_ ≠ gb157))) (fun _ hk => hk.2) (.string ((rd_T43 t153 x11_1).f0))) (fun _ hk => hk.2) (.int .i32 ((rd_T43 t153 x11_1).f1))) (fun _ hk => hk.2) (.int .i32 ((rd_T43 t153 x11_1).f2))) (fun _ hk => hk.2) (.bool (true))) (fun _ hk => hk.1.2)⟩, ⟨by (with_reducible repeat (first | refine blk_drewN ?_ _ | refine blk_drew ?_ | refine blk_alloc ?_ _)); refine blk_put (cs := #[.string ((rd_T43 t153 x11_1).f0), .int .i32 ((rd_T43 t153 x11_1).f1), .int .i32 ((rd_T43 t153 x11_1).f2), .bool false]) ?_ 3 _ (by rw [← Nbq13.out]; rfl); (with_reducible repeat (first | refine blk_drewN ?_ _ | refine blk_drew ?_ | refine blk_alloc ?_ _)); refine blk_put (cs := #[.string ((rd_T43 t153 x11_1).f0), .int .i32 ((rd_T43 t153 x11_1).f1), .int .i32 0, .bool false]) ?_ 2 _ rfl; (with_reducible repeat (first | refine blk_drewN ?_ _ | refine blk_drew ?_ | refine blk_alloc ?_ _)); refine blk_put (cs := #[.string ((rd_T43 t153 x11_1).f0), .int .i32 0, .int .i32 0, .bool false]) ?_ 1 _ rfl; (with_reducible repeat (first | refine blk_drewN ?_ _ | refine blk_drew ?_ | refine blk_alloc ?_ _)); refine blk_put (cs := #[.string (⟨#[]⟩ : ByteArray), .int .i32 0, .int .i32 0, .bool false]) ?_ 0 _ rfl; (with_reducible repeat (first | refine blk_drewN ?_ _ | refine blk_drew ?_ | refine blk_alloc ?_ _)); exact BK157.out⟩, ⟨by repeat (first | (with_reducible first | exact HB.out | apply below_alloc | apply pw_below_drewN | apply below_drew1 | refine below_set ?_ GE157.out) | exact HB.out)⟩⟩
                · replace c14 := Bool.eq_false_iff.mpr c14
                  subst c14
                  have H1 : (sieveref05_Longest.j1 k1 a0 x4_1 x5_1 (((rd_T43 t153 x11_1).f0).size : Int) t153 (t153.length : Int) x11_1 false ((rd_T43 t153 x11_1).f0) ((rd_T43 t153 x11_1).f1) ((rd_T43 t153 x11_1).f2) false) = some (r1, r2) := by rw [if_neg (show ¬ (false = true) by decide)] at H; exact H
                  clear H
                  have H := H1
                  clear H1
                  have H' := Aside0.mk H
                  clear H
                  have hcz16_0 : w11.cell? ⟨gb157, 0, none⟩ = some (.string (⟨#[]⟩ : ByteArray)) := (blk_cell BK157.out 0).trans rfl
                  have hcz16_1 : w11.cell? ⟨gb157, 1, none⟩ = some (.int .i32 0) := (blk_cell BK157.out 1).trans rfl
                  have hcz16_2 : w11.cell? ⟨gb157, 2, none⟩ = some (.int .i32 0) := (blk_cell BK157.out 2).trans rfl
                  have hcz16_3 : w11.cell? ⟨gb157, 3, none⟩ = some (.bool false) := (blk_cell BK157.out 3).trans rfl
                  have hfz16_0 := blk_frozen BK157.out 0
                  have hfz16_1 := blk_frozen BK157.out 1
                  have hfz16_2 := blk_frozen BK157.out 2
                  have hfz16_3 := blk_frozen BK157.out 3
                  go_wp2
                  go_meet
                  case rel => exact ⟨_, (false), (by first | rfl | (simp; done) | (simp [*]; done)), ⟨by rw [← Nbq13.out]; exact H'.out⟩, ⟨by have := HK1.out; first | omega | exact Nat.le_refl _⟩, ⟨by (with_reducible repeat (first | apply Kd.R_alloc | apply Kd.R_drewN | apply Kd.R_drew)); exact Kd.R_mono (Kd.R_far (p := ⟨gb157, 3, none⟩) (Kd.R_far (p := ⟨gb157, 2, none⟩) (Kd.R_far (p := ⟨gb157, 1, none⟩) (Kd.R_far (p := ⟨gb157, 0, none⟩) (Kd.R_types HO_5.out BK157.out (by decide)) (fun _ hk => hk.2) (.string ((rd_T43 t153 x11_1).f0))) (fun _ hk => hk.2) (.int .i32 ((rd_T43 t153 x11_1).f1))) (fun _ hk => hk.2) (.int .i32 ((rd_T43 t153 x11_1).f2))) (fun _ hk => hk.2) (.bool (false))) (fun _ hk => trivial)⟩, ⟨by (with_reducible repeat (first | apply Kd.R_alloc | apply Kd.R_drewN | apply Kd.R_drew)); exact Kd.R_mono (Kd.R_far (p := ⟨gb157, 3, none⟩) (Kd.R_far (p := ⟨gb157, 2, none⟩) (Kd.R_far (p := ⟨gb157, 1, none⟩) (Kd.R_far (p := ⟨gb157, 0, none⟩) (Kd.R_mono HO_9.out (fun k_ hk => (⟨hk, hk.2⟩ : _ ∧ k_ ≠ gb157))) (fun _ hk => hk.2) (.string ((rd_T43 t153 x11_1).f0))) (fun _ hk => hk.2) (.int .i32 ((rd_T43 t153 x11_1).f1))) (fun _ hk => hk.2) (.int .i32 ((rd_T43 t153 x11_1).f2))) (fun _ hk => hk.2) (.bool (false))) (fun _ hk => hk.1.2)⟩, ⟨by (with_reducible repeat (first | refine blk_drewN ?_ _ | refine blk_drew ?_ | refine blk_alloc ?_ _)); refine blk_put (cs := #[.string ((rd_T43 t153 x11_1).f0), .int .i32 ((rd_T43 t153 x11_1).f1), .int .i32 ((rd_T43 t153 x11_1).f2), .bool false]) ?_ 3 _ (by rw [← Nbq13.out]; rfl); (with_reducible repeat (first | refine blk_drewN ?_ _ | refine blk_drew ?_ | refine blk_alloc ?_ _)); refine blk_put (cs := #[.string ((rd_T43 t153 x11_1).f0), .int .i32 ((rd_T43 t153 x11_1).f1), .int .i32 0, .bool false]) ?_ 2 _ rfl; (with_reducible repeat (first | refine blk_drewN ?_ _ | refine blk_drew ?_ | refine blk_alloc ?_ _)); refine blk_put (cs := #[.string ((rd_T43 t153 x11_1).f0), .int .i32 0, .int .i32 0, .bool false]) ?_ 1 _ rfl; (with_reducible repeat (first | refine blk_drewN ?_ _ | refine blk_drew ?_ | refine blk_alloc ?_ _)); refine blk_put (cs := #[.string (⟨#[]⟩ : ByteArray), .int .i32 0, .int .i32 0, .bool false]) ?_ 0 _ rfl; (with_reducible repeat (first | refine blk_drewN ?_ _ | refine blk_drew ?_ | refine blk_alloc ?_ _)); exact BK157.out⟩, ⟨by repeat (first | (with_reducible first | exact HB.out | apply below_alloc | apply pw_below_drewN | apply below_drew1 | refine below_set ?_ GE157.out) | exact HB.out)⟩⟩
              case rest =>
                clear HC10
                try clear c1
                try clear p1
                try clear q1
                try clear hx1
                try clear c2
                try clear p2
                try clear c5
                try clear c5b0
                try clear c6
                try clear c6b0
                try clear p6
                try clear c7
                try clear c7b0
                try clear c9
                try clear c10
                try clear q13
                try clear c14
                try clear p15
                try clear q15
                try clear hx15
                try clear hcz12_0
                try clear hcz12_1
                try clear hcz12_2
                try clear hcz12_3
                try clear hcz15_0
                try clear hcz15_1
                try clear hcz15_2
                try clear hcz15_3
                try clear hcz16_0
                try clear hcz16_1
                try clear hcz16_2
                try clear hcz16_3
                try clear hfz12_0
                try clear hfz12_1
                try clear hfz12_2
                try clear hfz12_3
                try clear hfz15_0
                try clear hfz15_1
                try clear hfz15_2
                try clear hfz15_3
                try clear hfz16_0
                try clear hfz16_1
                try clear hfz16_2
                try clear hfz16_3
                try clear hx156_0
                try clear hx156_1
                try clear hx156_2
                try clear hx156_3
                try clear p156
                try clear p2
                try clear q156
                obtain ⟨kq, x29_9, rfl, HA, HJ9, HO_5, HO_9, BK157, HB⟩ := hcut
                cases kq with
                | zero => exact absurd HA.out (by simp [sieveref05_Longest.j1])
                | succ kj9 =>
                  have H := HA.out
                  clear HA
                  simp only [sieveref05_Longest.j1] at H
                  by_cases c17 : x29_9 = true
                  · subst c17
                    have H1 : ((sieveref05_says.f ((rd_T43 t153 x11_1).f0) ((rd_T43 t153 x11_1).f1) ((rd_T43 t153 x11_1).f2) ((rd_T43 t153 x11_1).f3)).bind fun t159 => (if (((rd_T43 t153 x11_1).f0).size : Int) < (a0.size : Int) then (if 0 ≤ (((rd_T43 t153 x11_1).f0).size : Int) then (if (bt a0 (((rd_T43 t153 x11_1).f0).size : Int)) = 59 then (if (wrap64 ((((rd_T43 t153 x11_1).f0).size : Int) + 1)) > (((rd_T43 t153 x11_1).f0).size : Int) then ((sieveref05_says.f ((rd_T43 t153 x11_1).f0) ((rd_T43 t153 x11_1).f1) ((rd_T43 t153 x11_1).f2) ((rd_T43 t153 x11_1).f3)).bind fun t162 => (sieveref05_Longest.l0 kj9 a0 (wrap64 ((((rd_T43 t153 x11_1).f0).size : Int) + 1)) t162 t153 (t153.length : Int) (wrap64 (x11_1 + 1)))) else (sieveref05_Longest.l0 kj9 a0 (((rd_T43 t153 x11_1).f0).size : Int) t159 t153 (t153.length : Int) (wrap64 (x11_1 + 1)))) else (sieveref05_Longest.l0 kj9 a0 (((rd_T43 t153 x11_1).f0).size : Int) t159 t153 (t153.length : Int) (wrap64 (x11_1 + 1)))) else (none)) else (sieveref05_Longest.l0 kj9 a0 (((rd_T43 t153 x11_1).f0).size : Int) t159 t153 (t153.length : Int) (wrap64 (x11_1 + 1))))) = some (r1, r2) := by rw [if_pos rfl] at H; exact H
                    clear H
                    have H := H1
                    clear H1
                    replace H := Option.bind_eq_some_iff.mp H
                    obtain ⟨t159, A180, H⟩ := H
                    replace H : (if (((rd_T43 t153 x11_1).f0).size : Int) < (a0.size : Int) then (if 0 ≤ (((rd_T43 t153 x11_1).f0).size : Int) then (if (bt a0 (((rd_T43 t153 x11_1).f0).size : Int)) = 59 then (if (wrap64 ((((rd_T43 t153 x11_1).f0).size : Int) + 1)) > (((rd_T43 t153 x11_1).f0).size : Int) then ((sieveref05_says.f ((rd_T43 t153 x11_1).f0) ((rd_T43 t153 x11_1).f1) ((rd_T43 t153 x11_1).f2) ((rd_T43 t153 x11_1).f3)).bind fun t162 => (sieveref05_Longest.l0 kj9 a0 (wrap64 ((((rd_T43 t153 x11_1).f0).size : Int) + 1)) t162 t153 (t153.length : Int) (wrap64 (x11_1 + 1)))) else (sieveref05_Longest.l0 kj9 a0 (((rd_T43 t153 x11_1).f0).size : Int) t159 t153 (t153.length : Int) (wrap64 (x11_1 + 1)))) else (sieveref05_Longest.l0 kj9 a0 (((rd_T43 t153 x11_1).f0).size : Int) t159 t153 (t153.length : Int) (wrap64 (x11_1 + 1)))) else (none)) else (sieveref05_Longest.l0 kj9 a0 (((rd_T43 t153 x11_1).f0).size : Int) t159 t153 (t153.length : Int) (wrap64 (x11_1 + 1)))) = some (r1, r2) := H
                    have A18 := Aside0.mk A180
                    clear A180
                    by_cases c19 : (((rd_T43 t153 x11_1).f0).size : Int) < (a0.size : Int)
                    · rw [if_pos c19] at H
                      have c19b0 : decide ((((rd_T43 t153 x11_1).f0).size : Int) < (a0.size : Int)) = true := decide_eq_true c19
                      have c19b1 : decide (((rd_T43 t153 x11_1).f0).size < a0.size) = true := decide_eq_true (Int.ofNat_lt.mp c19)
                      clear c19
                      by_cases c20 : 0 ≤ (((rd_T43 t153 x11_1).f0).size : Int)
                      · rw [if_pos c20] at H
                        have c20b0 : decide (0 ≤ (((rd_T43 t153 x11_1).f0).size : Int)) = true := decide_eq_true c20
                        have c20b1 : decide (0 ≤ ((rd_T43 t153 x11_1).f0).size) = true := decide_eq_true (by omega)
                        clear c20
                        by_cases c22 : (bt a0 (((rd_T43 t153 x11_1).f0).size : Int)) = 59
                        · rw [if_pos c22] at H
                          have c22b0 : ((bt a0 (((rd_T43 t153 x11_1).f0).size : Int)) == 59) = true := beq_iff_eq.mpr c22
                          have c22b1 : ((bt a0 (((rd_T43 t153 x11_1).f0).size : Int)) != 59) = false := bne_eq_false_iff_eq.mpr c22
                          have hzc22 : (((a0[((rd_T43 t153 x11_1).f0).size]'(of_decide_eq_true ‹decide (((rd_T43 t153 x11_1).f0).size < a0.size) = true›)).toNat : Int) == 59) = true := by
                            have z := bt_at a0 (((rd_T43 t153 x11_1).f0).size : Int) (by simpa using of_decide_eq_true ‹decide (((rd_T43 t153 x11_1).f0).size < a0.size) = true›)
                            simp only [Int.toNat_natCast] at z
                            rw [z]; exact c22b0
                          clear c22
                          by_cases c23 : (wrap64 ((((rd_T43 t153 x11_1).f0).size : Int) + 1)) > (((rd_T43 t153 x11_1).f0).size : Int)
                          · rw [if_pos c23] at H
                            have c23b0 : decide ((((rd_T43 t153 x11_1).f0).size : Int) < (wrap64 ((((rd_T43 t153 x11_1).f0).size : Int) + 1))) = true := decide_eq_true c23
                            clear c23
                            replace H := Option.bind_eq_some_iff.mp H
                            obtain ⟨t162, A240, H⟩ := H
                            replace H : (sieveref05_Longest.l0 kj9 a0 (wrap64 ((((rd_T43 t153 x11_1).f0).size : Int) + 1)) t162 t153 (t153.length : Int) (wrap64 (x11_1 + 1))) = some (r1, r2) := H
                            have A24 := Aside0.mk A240
                            clear A240
                            have H' := Aside0.mk H
                            clear H
                            have hcz25_0 : wc.cell? ⟨gb157, 0, none⟩ = some (.string ((rd_T43 t153 x11_1).f0)) := (blk_cell BK157.out 0).trans rfl
                            have hcz25_1 : wc.cell? ⟨gb157, 1, none⟩ = some (.int .i32 ((rd_T43 t153 x11_1).f1)) := (blk_cell BK157.out 1).trans rfl
                            have hcz25_2 : wc.cell? ⟨gb157, 2, none⟩ = some (.int .i32 ((rd_T43 t153 x11_1).f2)) := (blk_cell BK157.out 2).trans rfl
                            have hcz25_3 : wc.cell? ⟨gb157, 3, none⟩ = some (.bool ((rd_T43 t153 x11_1).f3)) := (blk_cell BK157.out 3).trans rfl
                            have hfz25_0 := blk_frozen BK157.out 0
                            have hfz25_1 := blk_frozen BK157.out 1
                            have hfz25_2 := blk_frozen BK157.out 2
                            have hfz25_3 := blk_frozen BK157.out 3
                            go_wp2_with (first | ((with_reducible refine gate_callee (f := 21) rfl ?_); refine goesL_ (some 32) rfl rfl Try.func21 (by kernel_rfl) rfl #[.agg #[.string ((rd_T43 t153 x11_1).f0), .int .i32 ((rd_T43 t153 x11_1).f1), .int .i32 ((rd_T43 t153 x11_1).f2), .bool ((rd_T43 t153 x11_1).f3)]] rfl (by (try simp only [List.map_toArray, List.map_cons, List.map_nil]); first | done | rfl | (simp only [List.length_drop, List.length_take]; rfl)) ?_; (with_reducible refine (sieveref05_says.calls ((rd_T43 t153 x11_1).f0) ((rd_T43 t153 x11_1).f1) ((rd_T43 t153 x11_1).f2) ((rd_T43 t153 x11_1).f3) t159 _ A18.out).mono ?_); rintro e w26 ⟨v160, rfl, ho0, hb⟩; refine ⟨_, rfl, ?_⟩; have n0_ := Aside0.mk (Kd.R_elder' (by (with_reducible repeat (first | apply Kd.R_alloc | apply Kd.R_drewN | apply Kd.R_drew)); exact HO_5.out) (Kd.R_base ho0) hb); have n1_ := Aside0.mk (Kd.R_below (by (with_reducible repeat (first | apply Kd.R_alloc | apply Kd.R_drewN | apply Kd.R_drew)); exact HO_9.out) hb); have n2_ := Aside0.mk (Kd.R_lower (Kd.R_new' ho0 (Kd.R_lt (by (with_reducible repeat (first | apply Kd.R_alloc | apply Kd.R_drewN | apply Kd.R_drew)); exact HO_5.out))) (below_size (by repeat (first | (with_reducible first | exact HB.out | apply below_alloc | apply pw_below_drewN | apply below_drew1 | refine below_set ?_ GE157.out) | exact HB.out)))); have n3_ := Aside0.mk (blk_below (g := gb157) (o := .cells #[.string ((rd_T43 t153 x11_1).f0), .int .i32 ((rd_T43 t153 x11_1).f1), .int .i32 ((rd_T43 t153 x11_1).f2), .bool ((rd_T43 t153 x11_1).f3)] 43 (0, 0)) (by (with_reducible repeat (first | refine blk_drewN ?_ _ | refine blk_drew ?_ | refine blk_alloc ?_ _)); exact BK157.out) hb); have n4_ := Aside0.mk (below_step (by repeat (first | (with_reducible first | exact HB.out | apply below_alloc | apply pw_below_drewN | apply below_drew1 | refine below_set ?_ GE157.out) | exact HB.out)) hb); clear HO_5; clear HO_9; clear BK157; clear HB; have HO_5 := n0_; have HO_9 := n1_; have HO161 := n2_; have BK157 := n3_; have HB := n4_; clear n0_ n1_ n2_ n3_ n4_; (try clear hb); (try clear hb2); (try clear hk); (try clear hi); (try clear ho0); have p21 : 0 ≤ ((((rd_T43 t153 x11_1).f0).size : Int) : Int) := of_decide_eq_true (by first | (with_reducible assumption) | assumption); have q21 : (((rd_T43 t153 x11_1).f0).size : Int) < (a0.size : Int) := of_decide_eq_true (by first | (with_reducible assumption) | assumption); have hx21 := bt_at a0 (((rd_T43 t153 x11_1).f0).size : Int); replace p21 := eq_true p21; replace q21 := eq_true q21; have hcz27_0 : w26.cell? ⟨gb157, 0, none⟩ = some (.string ((rd_T43 t153 x11_1).f0)) := (blk_cell BK157.out 0).trans rfl; have hcz27_1 : w26.cell? ⟨gb157, 1, none⟩ = some (.int .i32 ((rd_T43 t153 x11_1).f1)) := (blk_cell BK157.out 1).trans rfl; have hcz27_2 : w26.cell? ⟨gb157, 2, none⟩ = some (.int .i32 ((rd_T43 t153 x11_1).f2)) := (blk_cell BK157.out 2).trans rfl; have hcz27_3 : w26.cell? ⟨gb157, 3, none⟩ = some (.bool ((rd_T43 t153 x11_1).f3)) := (blk_cell BK157.out 3).trans rfl; have hfz27_0 := blk_frozen BK157.out 0; have hfz27_1 := blk_frozen BK157.out 1; have hfz27_2 := blk_frozen BK157.out 2; have hfz27_3 := blk_frozen BK157.out 3) | ((with_reducible refine gate_callee (f := 21) rfl ?_); refine goesL_ (some 52) rfl rfl Try.func21 (by kernel_rfl) rfl #[.agg #[.string ((rd_T43 t153 x11_1).f0), .int .i32 ((rd_T43 t153 x11_1).f1), .int .i32 ((rd_T43 t153 x11_1).f2), .bool ((rd_T43 t153 x11_1).f3)]] rfl (by (try simp only [List.map_toArray, List.map_cons, List.map_nil]); first | done | rfl | (simp only [List.length_drop, List.length_take]; rfl)) ?_; (with_reducible refine (sieveref05_says.calls ((rd_T43 t153 x11_1).f0) ((rd_T43 t153 x11_1).f1) ((rd_T43 t153 x11_1).f2) ((rd_T43 t153 x11_1).f3) t162 _ A24.out).mono ?_); rintro e w28 ⟨v163, rfl, ho0, hb⟩; refine ⟨_, rfl, ?_⟩; have n0_ := Aside0.mk (Kd.R_elder' (by (with_reducible repeat (first | apply Kd.R_alloc | apply Kd.R_drewN | apply Kd.R_drew)); exact HO_5.out) (Kd.R_base ho0) hb); have n1_ := Aside0.mk (Kd.R_below (by (with_reducible repeat (first | apply Kd.R_alloc | apply Kd.R_drewN | apply Kd.R_drew)); exact HO_9.out) hb); have n2_ := Aside0.mk (Kd.R_elder' (by (with_reducible repeat (first | apply Kd.R_alloc | apply Kd.R_drewN | apply Kd.R_drew)); exact HO161.out) (Kd.R_base ho0) hb); have n3_ := Aside0.mk (Kd.R_lower (Kd.R_new' (Kd.R_new' ho0 (Kd.R_lt (by (with_reducible repeat (first | apply Kd.R_alloc | apply Kd.R_drewN | apply Kd.R_drew)); exact HO_5.out))) (Kd.R_lt (by (with_reducible repeat (first | apply Kd.R_alloc | apply Kd.R_drewN | apply Kd.R_drew)); exact HO161.out))) (below_size (by repeat (first | (with_reducible first | exact HB.out | apply below_alloc | apply pw_below_drewN | apply below_drew1 | refine below_set ?_ GE157.out) | exact HB.out)))); have n4_ := Aside0.mk (blk_below (g := gb157) (o := .cells #[.string ((rd_T43 t153 x11_1).f0), .int .i32 ((rd_T43 t153 x11_1).f1), .int .i32 ((rd_T43 t153 x11_1).f2), .bool ((rd_T43 t153 x11_1).f3)] 43 (0, 0)) (by (with_reducible repeat (first | refine blk_drewN ?_ _ | refine blk_drew ?_ | refine blk_alloc ?_ _)); exact BK157.out) hb); have n5_ := Aside0.mk (below_step (by repeat (first | (with_reducible first | exact HB.out | apply below_alloc | apply pw_below_drewN | apply below_drew1 | refine below_set ?_ GE157.out) | exact HB.out)) hb); clear HO_5; clear HO_9; clear HO161; clear BK157; clear HB; have HO_5 := n0_; have HO_9 := n1_; have HO161 := n2_; have HO164 := n3_; have BK157 := n4_; have HB := n5_; clear n0_ n1_ n2_ n3_ n4_ n5_; (try clear hb); (try clear hb2); (try clear hk); (try clear hi); (try clear ho0)))
                            go_roundg kj9
                            case measure => have := HK1.out; have := HJ9.out; omega
                            case rel => exact ⟨(wrap64 ((((rd_T43 t153 x11_1).f0).size : Int) + 1)), (t162), (wrap64 (x11_1 + 1)), (by first | rfl | (simp; done) | (simp [*]; done)), (by first | rfl | (simp; done) | (simp [*]; done)), H', ⟨by have := HK1.out; have := HJ9.out; omega⟩, ⟨by (with_reducible repeat (first | apply Kd.R_alloc | apply Kd.R_drewN | apply Kd.R_drew)); exact Kd.R_mono HO164.out (fun _ hk => trivial)⟩, ⟨by (with_reducible repeat (first | apply Kd.R_alloc | apply Kd.R_drewN | apply Kd.R_drew)); exact Kd.R_mono HO_9.out (fun _ hk => trivial)⟩, ⟨by repeat (first | (with_reducible first | exact HB.out | apply below_alloc | apply pw_below_drewN | apply below_drew1 | refine below_set ?_ GE157.out) | exact HB.out)⟩⟩
                          · rw [if_neg c23] at H
                            have c23b0 : decide ((((rd_T43 t153 x11_1).f0).size : Int) < (wrap64 ((((rd_T43 t153 x11_1).f0).size : Int) + 1))) = false := decide_eq_false c23
                            clear c23
                            have H' := Aside0.mk H
                            clear H
                            have hcz29_0 : wc.cell? ⟨gb157, 0, none⟩ = some (.string ((rd_T43 t153 x11_1).f0)) := (blk_cell BK157.out 0).trans rfl
                            have hcz29_1 : wc.cell? ⟨gb157, 1, none⟩ = some (.int .i32 ((rd_T43 t153 x11_1).f1)) := (blk_cell BK157.out 1).trans rfl
                            have hcz29_2 : wc.cell? ⟨gb157, 2, none⟩ = some (.int .i32 ((rd_T43 t153 x11_1).f2)) := (blk_cell BK157.out 2).trans rfl
                            have hcz29_3 : wc.cell? ⟨gb157, 3, none⟩ = some (.bool ((rd_T43 t153 x11_1).f3)) := (blk_cell BK157.out 3).trans rfl
                            have hfz29_0 := blk_frozen BK157.out 0
                            have hfz29_1 := blk_frozen BK157.out 1
                            have hfz29_2 := blk_frozen BK157.out 2
                            have hfz29_3 := blk_frozen BK157.out 3
                            go_wp2_with (first | ((with_reducible refine gate_callee (f := 21) rfl ?_); refine goesL_ (some 32) rfl rfl Try.func21 (by kernel_rfl) rfl #[.agg #[.string ((rd_T43 t153 x11_1).f0), .int .i32 ((rd_T43 t153 x11_1).f1), .int .i32 ((rd_T43 t153 x11_1).f2), .bool ((rd_T43 t153 x11_1).f3)]] rfl (by (try simp only [List.map_toArray, List.map_cons, List.map_nil]); first | done | rfl | (simp only [List.length_drop, List.length_take]; rfl)) ?_; (with_reducible refine (sieveref05_says.calls ((rd_T43 t153 x11_1).f0) ((rd_T43 t153 x11_1).f1) ((rd_T43 t153 x11_1).f2) ((rd_T43 t153 x11_1).f3) t159 _ A18.out).mono ?_); rintro e w30 ⟨v160, rfl, ho0, hb⟩; refine ⟨_, rfl, ?_⟩; have n0_ := Aside0.mk (Kd.R_elder' (by (with_reducible repeat (first | apply Kd.R_alloc | apply Kd.R_drewN | apply Kd.R_drew)); exact HO_5.out) (Kd.R_base ho0) hb); have n1_ := Aside0.mk (Kd.R_below (by (with_reducible repeat (first | apply Kd.R_alloc | apply Kd.R_drewN | apply Kd.R_drew)); exact HO_9.out) hb); have n2_ := Aside0.mk (Kd.R_lower (Kd.R_new' ho0 (Kd.R_lt (by (with_reducible repeat (first | apply Kd.R_alloc | apply Kd.R_drewN | apply Kd.R_drew)); exact HO_5.out))) (below_size (by repeat (first | (with_reducible first | exact HB.out | apply below_alloc | apply pw_below_drewN | apply below_drew1 | refine below_set ?_ GE157.out) | exact HB.out)))); have n3_ := Aside0.mk (blk_below (g := gb157) (o := .cells #[.string ((rd_T43 t153 x11_1).f0), .int .i32 ((rd_T43 t153 x11_1).f1), .int .i32 ((rd_T43 t153 x11_1).f2), .bool ((rd_T43 t153 x11_1).f3)] 43 (0, 0)) (by (with_reducible repeat (first | refine blk_drewN ?_ _ | refine blk_drew ?_ | refine blk_alloc ?_ _)); exact BK157.out) hb); have n4_ := Aside0.mk (below_step (by repeat (first | (with_reducible first | exact HB.out | apply below_alloc | apply pw_below_drewN | apply below_drew1 | refine below_set ?_ GE157.out) | exact HB.out)) hb); clear HO_5; clear HO_9; clear BK157; clear HB; have HO_5 := n0_; have HO_9 := n1_; have HO161 := n2_; have BK157 := n3_; have HB := n4_; clear n0_ n1_ n2_ n3_ n4_; (try clear hb); (try clear hb2); (try clear hk); (try clear hi); (try clear ho0); have p21 : 0 ≤ ((((rd_T43 t153 x11_1).f0).size : Int) : Int) := of_decide_eq_true (by first | (with_reducible assumption) | assumption); have q21 : (((rd_T43 t153 x11_1).f0).size : Int) < (a0.size : Int) := of_decide_eq_true (by first | (with_reducible assumption) | assumption); have hx21 := bt_at a0 (((rd_T43 t153 x11_1).f0).size : Int); replace p21 := eq_true p21; replace q21 := eq_true q21))
                            go_roundg kj9
                            case measure => have := HK1.out; have := HJ9.out; omega
                            case rel => exact ⟨((((rd_T43 t153 x11_1).f0).size : Int)), (t159), (wrap64 (x11_1 + 1)), (by first | rfl | (simp; done) | (simp [*]; done)), (by first | rfl | (simp; done) | (simp [*]; done)), H', ⟨by have := HK1.out; have := HJ9.out; omega⟩, ⟨by (with_reducible repeat (first | apply Kd.R_alloc | apply Kd.R_drewN | apply Kd.R_drew)); exact Kd.R_mono HO161.out (fun _ hk => trivial)⟩, ⟨by (with_reducible repeat (first | apply Kd.R_alloc | apply Kd.R_drewN | apply Kd.R_drew)); exact Kd.R_mono HO_9.out (fun _ hk => trivial)⟩, ⟨by repeat (first | (with_reducible first | exact HB.out | apply below_alloc | apply pw_below_drewN | apply below_drew1 | refine below_set ?_ GE157.out) | exact HB.out)⟩⟩
                        · rw [if_neg c22] at H
                          have c22b0 : ((bt a0 (((rd_T43 t153 x11_1).f0).size : Int)) == 59) = false := beq_eq_false_iff_ne.mpr c22
                          have c22b1 : ((bt a0 (((rd_T43 t153 x11_1).f0).size : Int)) != 59) = true := bne_iff_ne.mpr c22
                          have hzc22 : (((a0[((rd_T43 t153 x11_1).f0).size]'(of_decide_eq_true ‹decide (((rd_T43 t153 x11_1).f0).size < a0.size) = true›)).toNat : Int) == 59) = false := by
                            have z := bt_at a0 (((rd_T43 t153 x11_1).f0).size : Int) (by simpa using of_decide_eq_true ‹decide (((rd_T43 t153 x11_1).f0).size < a0.size) = true›)
                            simp only [Int.toNat_natCast] at z
                            rw [z]; exact c22b0
                          have H' := Aside0.mk H
                          clear H
                          have hcz31_0 : wc.cell? ⟨gb157, 0, none⟩ = some (.string ((rd_T43 t153 x11_1).f0)) := (blk_cell BK157.out 0).trans rfl
                          have hcz31_1 : wc.cell? ⟨gb157, 1, none⟩ = some (.int .i32 ((rd_T43 t153 x11_1).f1)) := (blk_cell BK157.out 1).trans rfl
                          have hcz31_2 : wc.cell? ⟨gb157, 2, none⟩ = some (.int .i32 ((rd_T43 t153 x11_1).f2)) := (blk_cell BK157.out 2).trans rfl
                          have hcz31_3 : wc.cell? ⟨gb157, 3, none⟩ = some (.bool ((rd_T43 t153 x11_1).f3)) := (blk_cell BK157.out 3).trans rfl
                          have hfz31_0 := blk_frozen BK157.out 0
                          have hfz31_1 := blk_frozen BK157.out 1
                          have hfz31_2 := blk_frozen BK157.out 2
                          have hfz31_3 := blk_frozen BK157.out 3
                          go_wp2_with (first | ((with_reducible refine gate_callee (f := 21) rfl ?_); refine goesL_ (some 32) rfl rfl Try.func21 (by kernel_rfl) rfl #[.agg #[.string ((rd_T43 t153 x11_1).f0), .int .i32 ((rd_T43 t153 x11_1).f1), .int .i32 ((rd_T43 t153 x11_1).f2), .bool ((rd_T43 t153 x11_1).f3)]] rfl (by (try simp only [List.map_toArray, List.map_cons, List.map_nil]); first | done | rfl | (simp only [List.length_drop, List.length_take]; rfl)) ?_; (with_reducible refine (sieveref05_says.calls ((rd_T43 t153 x11_1).f0) ((rd_T43 t153 x11_1).f1) ((rd_T43 t153 x11_1).f2) ((rd_T43 t153 x11_1).f3) t159 _ A18.out).mono ?_); rintro e w32 ⟨v160, rfl, ho0, hb⟩; refine ⟨_, rfl, ?_⟩; have n0_ := Aside0.mk (Kd.R_elder' (by (with_reducible repeat (first | apply Kd.R_alloc | apply Kd.R_drewN | apply Kd.R_drew)); exact HO_5.out) (Kd.R_base ho0) hb); have n1_ := Aside0.mk (Kd.R_below (by (with_reducible repeat (first | apply Kd.R_alloc | apply Kd.R_drewN | apply Kd.R_drew)); exact HO_9.out) hb); have n2_ := Aside0.mk (Kd.R_lower (Kd.R_new' ho0 (Kd.R_lt (by (with_reducible repeat (first | apply Kd.R_alloc | apply Kd.R_drewN | apply Kd.R_drew)); exact HO_5.out))) (below_size (by repeat (first | (with_reducible first | exact HB.out | apply below_alloc | apply pw_below_drewN | apply below_drew1 | refine below_set ?_ GE157.out) | exact HB.out)))); have n3_ := Aside0.mk (blk_below (g := gb157) (o := .cells #[.string ((rd_T43 t153 x11_1).f0), .int .i32 ((rd_T43 t153 x11_1).f1), .int .i32 ((rd_T43 t153 x11_1).f2), .bool ((rd_T43 t153 x11_1).f3)] 43 (0, 0)) (by (with_reducible repeat (first | refine blk_drewN ?_ _ | refine blk_drew ?_ | refine blk_alloc ?_ _)); exact BK157.out) hb); have n4_ := Aside0.mk (below_step (by repeat (first | (with_reducible first | exact HB.out | apply below_alloc | apply pw_below_drewN | apply below_drew1 | refine below_set ?_ GE157.out) | exact HB.out)) hb); clear HO_5; clear HO_9; clear BK157; clear HB; have HO_5 := n0_; have HO_9 := n1_; have HO161 := n2_; have BK157 := n3_; have HB := n4_; clear n0_ n1_ n2_ n3_ n4_; (try clear hb); (try clear hb2); (try clear hk); (try clear hi); (try clear ho0); have p21 : 0 ≤ ((((rd_T43 t153 x11_1).f0).size : Int) : Int) := of_decide_eq_true (by first | (with_reducible assumption) | assumption); have q21 : (((rd_T43 t153 x11_1).f0).size : Int) < (a0.size : Int) := of_decide_eq_true (by first | (with_reducible assumption) | assumption); have hx21 := bt_at a0 (((rd_T43 t153 x11_1).f0).size : Int); replace p21 := eq_true p21; replace q21 := eq_true q21))
                          go_roundg kj9
                          case measure => have := HK1.out; have := HJ9.out; omega
                          case rel => exact ⟨((((rd_T43 t153 x11_1).f0).size : Int)), (t159), (wrap64 (x11_1 + 1)), (by first | rfl | (simp; done) | (simp [*]; done)), (by first | rfl | (simp; done) | (simp [*]; done)), H', ⟨by have := HK1.out; have := HJ9.out; omega⟩, ⟨by (with_reducible repeat (first | apply Kd.R_alloc | apply Kd.R_drewN | apply Kd.R_drew)); exact Kd.R_mono HO161.out (fun _ hk => trivial)⟩, ⟨by (with_reducible repeat (first | apply Kd.R_alloc | apply Kd.R_drewN | apply Kd.R_drew)); exact Kd.R_mono HO_9.out (fun _ hk => trivial)⟩, ⟨by repeat (first | (with_reducible first | exact HB.out | apply below_alloc | apply pw_below_drewN | apply below_drew1 | refine below_set ?_ GE157.out) | exact HB.out)⟩⟩
                      · rw [if_neg c20] at H
                        exact absurd H (by simp)
                    · rw [if_neg c19] at H
                      have c19b0 : decide ((((rd_T43 t153 x11_1).f0).size : Int) < (a0.size : Int)) = false := decide_eq_false c19
                      have c19b1 : decide (((rd_T43 t153 x11_1).f0).size < a0.size) = false := decide_eq_false (fun h => c19 (Int.ofNat_lt.mpr h))
                      clear c19
                      have H' := Aside0.mk H
                      clear H
                      have hcz33_0 : wc.cell? ⟨gb157, 0, none⟩ = some (.string ((rd_T43 t153 x11_1).f0)) := (blk_cell BK157.out 0).trans rfl
                      have hcz33_1 : wc.cell? ⟨gb157, 1, none⟩ = some (.int .i32 ((rd_T43 t153 x11_1).f1)) := (blk_cell BK157.out 1).trans rfl
                      have hcz33_2 : wc.cell? ⟨gb157, 2, none⟩ = some (.int .i32 ((rd_T43 t153 x11_1).f2)) := (blk_cell BK157.out 2).trans rfl
                      have hcz33_3 : wc.cell? ⟨gb157, 3, none⟩ = some (.bool ((rd_T43 t153 x11_1).f3)) := (blk_cell BK157.out 3).trans rfl
                      have hfz33_0 := blk_frozen BK157.out 0
                      have hfz33_1 := blk_frozen BK157.out 1
                      have hfz33_2 := blk_frozen BK157.out 2
                      have hfz33_3 := blk_frozen BK157.out 3
                      go_wp2_with (first | ((with_reducible refine gate_callee (f := 21) rfl ?_); refine goesL_ (some 32) rfl rfl Try.func21 (by kernel_rfl) rfl #[.agg #[.string ((rd_T43 t153 x11_1).f0), .int .i32 ((rd_T43 t153 x11_1).f1), .int .i32 ((rd_T43 t153 x11_1).f2), .bool ((rd_T43 t153 x11_1).f3)]] rfl (by (try simp only [List.map_toArray, List.map_cons, List.map_nil]); first | done | rfl | (simp only [List.length_drop, List.length_take]; rfl)) ?_; (with_reducible refine (sieveref05_says.calls ((rd_T43 t153 x11_1).f0) ((rd_T43 t153 x11_1).f1) ((rd_T43 t153 x11_1).f2) ((rd_T43 t153 x11_1).f3) t159 _ A18.out).mono ?_); rintro e w34 ⟨v160, rfl, ho0, hb⟩; refine ⟨_, rfl, ?_⟩; have n0_ := Aside0.mk (Kd.R_elder' (by (with_reducible repeat (first | apply Kd.R_alloc | apply Kd.R_drewN | apply Kd.R_drew)); exact HO_5.out) (Kd.R_base ho0) hb); have n1_ := Aside0.mk (Kd.R_below (by (with_reducible repeat (first | apply Kd.R_alloc | apply Kd.R_drewN | apply Kd.R_drew)); exact HO_9.out) hb); have n2_ := Aside0.mk (Kd.R_lower (Kd.R_new' ho0 (Kd.R_lt (by (with_reducible repeat (first | apply Kd.R_alloc | apply Kd.R_drewN | apply Kd.R_drew)); exact HO_5.out))) (below_size (by repeat (first | (with_reducible first | exact HB.out | apply below_alloc | apply pw_below_drewN | apply below_drew1 | refine below_set ?_ GE157.out) | exact HB.out)))); have n3_ := Aside0.mk (blk_below (g := gb157) (o := .cells #[.string ((rd_T43 t153 x11_1).f0), .int .i32 ((rd_T43 t153 x11_1).f1), .int .i32 ((rd_T43 t153 x11_1).f2), .bool ((rd_T43 t153 x11_1).f3)] 43 (0, 0)) (by (with_reducible repeat (first | refine blk_drewN ?_ _ | refine blk_drew ?_ | refine blk_alloc ?_ _)); exact BK157.out) hb); have n4_ := Aside0.mk (below_step (by repeat (first | (with_reducible first | exact HB.out | apply below_alloc | apply pw_below_drewN | apply below_drew1 | refine below_set ?_ GE157.out) | exact HB.out)) hb); clear HO_5; clear HO_9; clear BK157; clear HB; have HO_5 := n0_; have HO_9 := n1_; have HO161 := n2_; have BK157 := n3_; have HB := n4_; clear n0_ n1_ n2_ n3_ n4_; (try clear hb); (try clear hb2); (try clear hk); (try clear hi); (try clear ho0)))
                      go_roundg kj9
                      case measure => have := HK1.out; have := HJ9.out; omega
                      case rel => exact ⟨((((rd_T43 t153 x11_1).f0).size : Int)), (t159), (wrap64 (x11_1 + 1)), (by first | rfl | (simp; done) | (simp [*]; done)), (by first | rfl | (simp; done) | (simp [*]; done)), H', ⟨by have := HK1.out; have := HJ9.out; omega⟩, ⟨by (with_reducible repeat (first | apply Kd.R_alloc | apply Kd.R_drewN | apply Kd.R_drew)); exact Kd.R_mono HO161.out (fun _ hk => trivial)⟩, ⟨by (with_reducible repeat (first | apply Kd.R_alloc | apply Kd.R_drewN | apply Kd.R_drew)); exact Kd.R_mono HO_9.out (fun _ hk => trivial)⟩, ⟨by repeat (first | (with_reducible first | exact HB.out | apply below_alloc | apply pw_below_drewN | apply below_drew1 | refine below_set ?_ GE157.out) | exact HB.out)⟩⟩
                  · replace c17 := Bool.eq_false_iff.mpr c17
                    subst c17
                    have H1 : (if (((rd_T43 t153 x11_1).f0).size : Int) < (a0.size : Int) then (if 0 ≤ (((rd_T43 t153 x11_1).f0).size : Int) then (if (bt a0 (((rd_T43 t153 x11_1).f0).size : Int)) = 59 then (if (wrap64 ((((rd_T43 t153 x11_1).f0).size : Int) + 1)) > x4_1 then ((sieveref05_says.f ((rd_T43 t153 x11_1).f0) ((rd_T43 t153 x11_1).f1) ((rd_T43 t153 x11_1).f2) ((rd_T43 t153 x11_1).f3)).bind fun t165 => (sieveref05_Longest.l0 kj9 a0 (wrap64 ((((rd_T43 t153 x11_1).f0).size : Int) + 1)) t165 t153 (t153.length : Int) (wrap64 (x11_1 + 1)))) else (sieveref05_Longest.l0 kj9 a0 x4_1 x5_1 t153 (t153.length : Int) (wrap64 (x11_1 + 1)))) else (sieveref05_Longest.l0 kj9 a0 x4_1 x5_1 t153 (t153.length : Int) (wrap64 (x11_1 + 1)))) else (none)) else (sieveref05_Longest.l0 kj9 a0 x4_1 x5_1 t153 (t153.length : Int) (wrap64 (x11_1 + 1)))) = some (r1, r2) := by rw [if_neg (show ¬ (false = true) by decide)] at H; exact H
                    clear H
                    have H := H1
                    clear H1
                    by_cases c35 : (((rd_T43 t153 x11_1).f0).size : Int) < (a0.size : Int)
                    · rw [if_pos c35] at H
                      have c35b0 : decide ((((rd_T43 t153 x11_1).f0).size : Int) < (a0.size : Int)) = true := decide_eq_true c35
                      have c35b1 : decide (((rd_T43 t153 x11_1).f0).size < a0.size) = true := decide_eq_true (Int.ofNat_lt.mp c35)
                      clear c35
                      by_cases c36 : 0 ≤ (((rd_T43 t153 x11_1).f0).size : Int)
                      · rw [if_pos c36] at H
                        have c36b0 : decide (0 ≤ (((rd_T43 t153 x11_1).f0).size : Int)) = true := decide_eq_true c36
                        have c36b1 : decide (0 ≤ ((rd_T43 t153 x11_1).f0).size) = true := decide_eq_true (by omega)
                        clear c36
                        by_cases c38 : (bt a0 (((rd_T43 t153 x11_1).f0).size : Int)) = 59
                        · rw [if_pos c38] at H
                          have c38b0 : ((bt a0 (((rd_T43 t153 x11_1).f0).size : Int)) == 59) = true := beq_iff_eq.mpr c38
                          have c38b1 : ((bt a0 (((rd_T43 t153 x11_1).f0).size : Int)) != 59) = false := bne_eq_false_iff_eq.mpr c38
                          have hzc38 : (((a0[((rd_T43 t153 x11_1).f0).size]'(of_decide_eq_true ‹decide (((rd_T43 t153 x11_1).f0).size < a0.size) = true›)).toNat : Int) == 59) = true := by
                            have z := bt_at a0 (((rd_T43 t153 x11_1).f0).size : Int) (by simpa using of_decide_eq_true ‹decide (((rd_T43 t153 x11_1).f0).size < a0.size) = true›)
                            simp only [Int.toNat_natCast] at z
                            rw [z]; exact c38b0
                          clear c38
                          by_cases c39 : (wrap64 ((((rd_T43 t153 x11_1).f0).size : Int) + 1)) > x4_1
                          · rw [if_pos c39] at H
                            have c39b0 : decide (x4_1 < (wrap64 ((((rd_T43 t153 x11_1).f0).size : Int) + 1))) = true := decide_eq_true c39
                            clear c39
                            replace H := Option.bind_eq_some_iff.mp H
                            obtain ⟨t165, A400, H⟩ := H
                            replace H : (sieveref05_Longest.l0 kj9 a0 (wrap64 ((((rd_T43 t153 x11_1).f0).size : Int) + 1)) t165 t153 (t153.length : Int) (wrap64 (x11_1 + 1))) = some (r1, r2) := H
                            have A40 := Aside0.mk A400
                            clear A400
                            have H' := Aside0.mk H
                            clear H
                            have p37 : 0 ≤ ((((rd_T43 t153 x11_1).f0).size : Int) : Int) := of_decide_eq_true (by first | (with_reducible assumption) | assumption)
                            have q37 : (((rd_T43 t153 x11_1).f0).size : Int) < (a0.size : Int) := of_decide_eq_true (by first | (with_reducible assumption) | assumption)
                            have hx37 := bt_at a0 (((rd_T43 t153 x11_1).f0).size : Int)
                            replace p37 := eq_true p37
                            replace q37 := eq_true q37
                            have hcz41_0 : wc.cell? ⟨gb157, 0, none⟩ = some (.string ((rd_T43 t153 x11_1).f0)) := (blk_cell BK157.out 0).trans rfl
                            have hcz41_1 : wc.cell? ⟨gb157, 1, none⟩ = some (.int .i32 ((rd_T43 t153 x11_1).f1)) := (blk_cell BK157.out 1).trans rfl
                            have hcz41_2 : wc.cell? ⟨gb157, 2, none⟩ = some (.int .i32 ((rd_T43 t153 x11_1).f2)) := (blk_cell BK157.out 2).trans rfl
                            have hcz41_3 : wc.cell? ⟨gb157, 3, none⟩ = some (.bool ((rd_T43 t153 x11_1).f3)) := (blk_cell BK157.out 3).trans rfl
                            have hfz41_0 := blk_frozen BK157.out 0
                            have hfz41_1 := blk_frozen BK157.out 1
                            have hfz41_2 := blk_frozen BK157.out 2
                            have hfz41_3 := blk_frozen BK157.out 3
                            go_wp2_with (first | ((with_reducible refine gate_callee (f := 21) rfl ?_); refine goesL_ (some 52) rfl rfl Try.func21 (by kernel_rfl) rfl #[.agg #[.string ((rd_T43 t153 x11_1).f0), .int .i32 ((rd_T43 t153 x11_1).f1), .int .i32 ((rd_T43 t153 x11_1).f2), .bool ((rd_T43 t153 x11_1).f3)]] rfl (by (try simp only [List.map_toArray, List.map_cons, List.map_nil]); first | done | rfl | (simp only [List.length_drop, List.length_take]; rfl)) ?_; (with_reducible refine (sieveref05_says.calls ((rd_T43 t153 x11_1).f0) ((rd_T43 t153 x11_1).f1) ((rd_T43 t153 x11_1).f2) ((rd_T43 t153 x11_1).f3) t165 _ A40.out).mono ?_); rintro e w42 ⟨v166, rfl, ho0, hb⟩; refine ⟨_, rfl, ?_⟩; have n0_ := Aside0.mk (Kd.R_elder' (by (with_reducible repeat (first | apply Kd.R_alloc | apply Kd.R_drewN | apply Kd.R_drew)); exact HO_5.out) (Kd.R_base ho0) hb); have n1_ := Aside0.mk (Kd.R_below (by (with_reducible repeat (first | apply Kd.R_alloc | apply Kd.R_drewN | apply Kd.R_drew)); exact HO_9.out) hb); have n2_ := Aside0.mk (Kd.R_lower (Kd.R_new' ho0 (Kd.R_lt (by (with_reducible repeat (first | apply Kd.R_alloc | apply Kd.R_drewN | apply Kd.R_drew)); exact HO_5.out))) (below_size (by repeat (first | (with_reducible first | exact HB.out | apply below_alloc | apply pw_below_drewN | apply below_drew1 | refine below_set ?_ GE157.out) | exact HB.out)))); have n3_ := Aside0.mk (blk_below (g := gb157) (o := .cells #[.string ((rd_T43 t153 x11_1).f0), .int .i32 ((rd_T43 t153 x11_1).f1), .int .i32 ((rd_T43 t153 x11_1).f2), .bool ((rd_T43 t153 x11_1).f3)] 43 (0, 0)) (by (with_reducible repeat (first | refine blk_drewN ?_ _ | refine blk_drew ?_ | refine blk_alloc ?_ _)); exact BK157.out) hb); have n4_ := Aside0.mk (below_step (by repeat (first | (with_reducible first | exact HB.out | apply below_alloc | apply pw_below_drewN | apply below_drew1 | refine below_set ?_ GE157.out) | exact HB.out)) hb); clear HO_5; clear HO_9; clear BK157; clear HB; have HO_5 := n0_; have HO_9 := n1_; have HO167 := n2_; have BK157 := n3_; have HB := n4_; clear n0_ n1_ n2_ n3_ n4_; (try clear hb); (try clear hb2); (try clear hk); (try clear hi); (try clear ho0)))
                            go_roundg kj9
                            case measure => have := HK1.out; have := HJ9.out; omega
                            case rel => exact ⟨(wrap64 ((((rd_T43 t153 x11_1).f0).size : Int) + 1)), (t165), (wrap64 (x11_1 + 1)), (by first | rfl | (simp; done) | (simp [*]; done)), (by first | rfl | (simp; done) | (simp [*]; done)), H', ⟨by have := HK1.out; have := HJ9.out; omega⟩, ⟨by (with_reducible repeat (first | apply Kd.R_alloc | apply Kd.R_drewN | apply Kd.R_drew)); exact Kd.R_mono HO167.out (fun _ hk => trivial)⟩, ⟨by (with_reducible repeat (first | apply Kd.R_alloc | apply Kd.R_drewN | apply Kd.R_drew)); exact Kd.R_mono HO_9.out (fun _ hk => trivial)⟩, ⟨by repeat (first | (with_reducible first | exact HB.out | apply below_alloc | apply pw_below_drewN | apply below_drew1 | refine below_set ?_ GE157.out) | exact HB.out)⟩⟩
                          · rw [if_neg c39] at H
                            have c39b0 : decide (x4_1 < (wrap64 ((((rd_T43 t153 x11_1).f0).size : Int) + 1))) = false := decide_eq_false c39
                            clear c39
                            have H' := Aside0.mk H
                            clear H
                            have p37 : 0 ≤ ((((rd_T43 t153 x11_1).f0).size : Int) : Int) := of_decide_eq_true (by first | (with_reducible assumption) | assumption)
                            have q37 : (((rd_T43 t153 x11_1).f0).size : Int) < (a0.size : Int) := of_decide_eq_true (by first | (with_reducible assumption) | assumption)
                            have hx37 := bt_at a0 (((rd_T43 t153 x11_1).f0).size : Int)
                            replace p37 := eq_true p37
                            replace q37 := eq_true q37
                            go_wp2
                            go_roundg kj9
                            case measure => have := HK1.out; have := HJ9.out; omega
                            case rel => exact ⟨(x4_1), (x5_1), (wrap64 (x11_1 + 1)), (by first | rfl | (simp; done) | (simp [*]; done)), (by first | rfl | (simp; done) | (simp [*]; done)), H', ⟨by have := HK1.out; have := HJ9.out; omega⟩, ⟨by (with_reducible repeat (first | apply Kd.R_alloc | apply Kd.R_drewN | apply Kd.R_drew)); exact HO_5.out⟩, ⟨by (with_reducible repeat (first | apply Kd.R_alloc | apply Kd.R_drewN | apply Kd.R_drew)); exact Kd.R_mono HO_9.out (fun _ hk => trivial)⟩, ⟨by repeat (first | (with_reducible first | exact HB.out | apply below_alloc | apply pw_below_drewN | apply below_drew1 | refine below_set ?_ GE157.out) | exact HB.out)⟩⟩
                        · rw [if_neg c38] at H
                          have c38b0 : ((bt a0 (((rd_T43 t153 x11_1).f0).size : Int)) == 59) = false := beq_eq_false_iff_ne.mpr c38
                          have c38b1 : ((bt a0 (((rd_T43 t153 x11_1).f0).size : Int)) != 59) = true := bne_iff_ne.mpr c38
                          have hzc38 : (((a0[((rd_T43 t153 x11_1).f0).size]'(of_decide_eq_true ‹decide (((rd_T43 t153 x11_1).f0).size < a0.size) = true›)).toNat : Int) == 59) = false := by
                            have z := bt_at a0 (((rd_T43 t153 x11_1).f0).size : Int) (by simpa using of_decide_eq_true ‹decide (((rd_T43 t153 x11_1).f0).size < a0.size) = true›)
                            simp only [Int.toNat_natCast] at z
                            rw [z]; exact c38b0
                          have H' := Aside0.mk H
                          clear H
                          have p37 : 0 ≤ ((((rd_T43 t153 x11_1).f0).size : Int) : Int) := of_decide_eq_true (by first | (with_reducible assumption) | assumption)
                          have q37 : (((rd_T43 t153 x11_1).f0).size : Int) < (a0.size : Int) := of_decide_eq_true (by first | (with_reducible assumption) | assumption)
                          have hx37 := bt_at a0 (((rd_T43 t153 x11_1).f0).size : Int)
                          replace p37 := eq_true p37
                          replace q37 := eq_true q37
                          go_wp2
                          go_roundg kj9
                          case measure => have := HK1.out; have := HJ9.out; omega
                          case rel => exact ⟨(x4_1), (x5_1), (wrap64 (x11_1 + 1)), (by first | rfl | (simp; done) | (simp [*]; done)), (by first | rfl | (simp; done) | (simp [*]; done)), H', ⟨by have := HK1.out; have := HJ9.out; omega⟩, ⟨by (with_reducible repeat (first | apply Kd.R_alloc | apply Kd.R_drewN | apply Kd.R_drew)); exact HO_5.out⟩, ⟨by (with_reducible repeat (first | apply Kd.R_alloc | apply Kd.R_drewN | apply Kd.R_drew)); exact Kd.R_mono HO_9.out (fun _ hk => trivial)⟩, ⟨by repeat (first | (with_reducible first | exact HB.out | apply below_alloc | apply pw_below_drewN | apply below_drew1 | refine below_set ?_ GE157.out) | exact HB.out)⟩⟩
                      · rw [if_neg c36] at H
                        exact absurd H (by simp)
                    · rw [if_neg c35] at H
                      have c35b0 : decide ((((rd_T43 t153 x11_1).f0).size : Int) < (a0.size : Int)) = false := decide_eq_false c35
                      have c35b1 : decide (((rd_T43 t153 x11_1).f0).size < a0.size) = false := decide_eq_false (fun h => c35 (Int.ofNat_lt.mpr h))
                      clear c35
                      have H' := Aside0.mk H
                      clear H
                      go_wp2
                      go_roundg kj9
                      case measure => have := HK1.out; have := HJ9.out; omega
                      case rel => exact ⟨(x4_1), (x5_1), (wrap64 (x11_1 + 1)), (by first | rfl | (simp; done) | (simp [*]; done)), (by first | rfl | (simp; done) | (simp [*]; done)), H', ⟨by have := HK1.out; have := HJ9.out; omega⟩, ⟨by (with_reducible repeat (first | apply Kd.R_alloc | apply Kd.R_drewN | apply Kd.R_drew)); exact HO_5.out⟩, ⟨by (with_reducible repeat (first | apply Kd.R_alloc | apply Kd.R_drewN | apply Kd.R_drew)); exact Kd.R_mono HO_9.out (fun _ hk => trivial)⟩, ⟨by repeat (first | (with_reducible first | exact HB.out | apply below_alloc | apply pw_below_drewN | apply below_drew1 | refine below_set ?_ GE157.out) | exact HB.out)⟩⟩
            · replace c9 := Bool.eq_false_iff.mpr c9
              subst c9
              have H1 : (sieveref05_Longest.l0 k1 a0 x4_1 x5_1 t153 (t153.length : Int) (wrap64 (x11_1 + 1))) = some (r1, r2) := by rw [if_neg (show ¬ (false = true) by decide)] at H; exact H
              clear H
              have H := H1
              clear H1
              have H' := Aside0.mk H
              clear H
              have p156 : 0 ≤ (x11_1 : Int) := of_decide_eq_true (by first | (with_reducible assumption) | assumption)
              have q156 : x11_1 < (t153.length : Int) := of_decide_eq_true (by first | (with_reducible assumption) | assumption)
              obtain ⟨ad156, e156, hx156_0, hx156_1, hx156_2, hx156_3⟩ := at_T43 (Kd.R_reads' HO_9.out).2.2 x11_1 p156 q156
              cases e156
              replace p156 := eq_true p156
              replace q156 := eq_true q156
              go_wp2_with (first | ((with_reducible refine gate_dst (N := 7) rfl ?_); refine box_event ?hg (N := 7) ?hd (cs := #[.string (⟨#[]⟩ : ByteArray), .int .i32 0, .int .i32 0, .bool false]) (t := 43) ?hr ?_; (case hd => rfl); (case hg => rfl); (case hr => first | (go_simp; done) | (go_simp; rfl)); intro gb157 hg w43 hbox hb; have n0_ := Aside0.mk (Kd.R_below (by (with_reducible repeat (first | apply Kd.R_alloc | apply Kd.R_drewN | apply Kd.R_drew)); exact HO_5.out) hb); have n1_ := Aside0.mk (Kd.R_below (Kd.R_elderB (by (with_reducible repeat (first | apply Kd.R_alloc | apply Kd.R_drewN | apply Kd.R_drew)); exact HO_9.out) gb157 (Nat.le_of_eq hg.symm)) hb); have n2_ := Aside0.mk (below_step (by repeat (first | (with_reducible first | exact HB.out | apply below_alloc | apply pw_below_drewN | apply below_drew1) | exact HB.out)) hb); have n3_ := Aside0.mk (hbox); have n4_ := Aside0.mk ((by rw [hg]; exact (below_size (by repeat (first | (with_reducible first | exact HB.out | apply below_alloc | apply pw_below_drewN | apply below_drew1) | exact HB.out))) : w.heap.size ≤ gb157)); have n5_ := Aside0.mk ((by rw [hg]; exact (below_size (by repeat (first | (with_reducible first | exact HB.out | apply below_alloc | apply pw_below_drewN | apply below_drew1) | exact HB.out))) : w.heap.size ≤ gb157)); clear HO_5; clear HO_9; clear HB; have HO_5 := n0_; have HO_9 := n1_; have HB := n2_; have BK157 := n3_; have GW157 := n4_; have GE157 := n5_; clear n0_ n1_ n2_ n3_ n4_ n5_; clear hb hbox hg; have hcz44_0 : w43.cell? ⟨gb157, 0, none⟩ = some (.string (⟨#[]⟩ : ByteArray)) := (blk_cell BK157.out 0).trans rfl; have hcz44_1 : w43.cell? ⟨gb157, 1, none⟩ = some (.int .i32 0) := (blk_cell BK157.out 1).trans rfl; have hcz44_2 : w43.cell? ⟨gb157, 2, none⟩ = some (.int .i32 0) := (blk_cell BK157.out 2).trans rfl; have hcz44_3 : w43.cell? ⟨gb157, 3, none⟩ = some (.bool false) := (blk_cell BK157.out 3).trans rfl; have hfz44_0 := blk_frozen BK157.out 0; have hfz44_1 := blk_frozen BK157.out 1; have hfz44_2 := blk_frozen BK157.out 2; have hfz44_3 := blk_frozen BK157.out 3) | ((with_reducible refine gate_callee (f := 23) rfl ?_); refine goesL_ (some 21) rfl rfl Try.func23 (by kernel_rfl) rfl #[.string a0, .string ((rd_T43 t153 x11_1).f0)] rfl (by (try simp only [List.map_toArray, List.map_cons, List.map_nil]); first | done | rfl | (simp only [List.length_drop, List.length_take]; rfl)) ?_; (with_reducible refine (sieveref05_Prefix.calls a0 ((rd_T43 t153 x11_1).f0) false _ A8.out).mono ?_); rintro e w' ⟨rfl, ⟨nd, rfl⟩⟩; refine ⟨_, rfl, ?_⟩))
              go_roundg k1
              case measure => have := HK1.out; omega
              case rel => exact ⟨(x4_1), (x5_1), (wrap64 (x11_1 + 1)), (by first | rfl | (simp; done) | (simp [*]; done)), (by first | rfl | (simp; done) | (simp [*]; done)), H', ⟨by have := HK1.out; omega⟩, ⟨by (with_reducible repeat (first | apply Kd.R_alloc | apply Kd.R_drewN | apply Kd.R_drew)); exact Kd.R_mono (Kd.R_far (p := ⟨gb157, 3, none⟩) (Kd.R_far (p := ⟨gb157, 2, none⟩) (Kd.R_far (p := ⟨gb157, 1, none⟩) (Kd.R_far (p := ⟨gb157, 0, none⟩) (Kd.R_types HO_5.out BK157.out (by decide)) (fun _ hk => hk.2) (.string ((rd_T43 t153 x11_1).f0))) (fun _ hk => hk.2) (.int .i32 ((rd_T43 t153 x11_1).f1))) (fun _ hk => hk.2) (.int .i32 ((rd_T43 t153 x11_1).f2))) (fun _ hk => hk.2) (.bool ((rd_T43 t153 x11_1).f3))) (fun _ hk => trivial)⟩, ⟨by (with_reducible repeat (first | apply Kd.R_alloc | apply Kd.R_drewN | apply Kd.R_drew)); exact Kd.R_mono (Kd.R_far (p := ⟨gb157, 3, none⟩) (Kd.R_far (p := ⟨gb157, 2, none⟩) (Kd.R_far (p := ⟨gb157, 1, none⟩) (Kd.R_far (p := ⟨gb157, 0, none⟩) (Kd.R_mono HO_9.out (fun k_ hk => (⟨hk, hk.2⟩ : _ ∧ k_ ≠ gb157))) (fun _ hk => hk.2) (.string ((rd_T43 t153 x11_1).f0))) (fun _ hk => hk.2) (.int .i32 ((rd_T43 t153 x11_1).f1))) (fun _ hk => hk.2) (.int .i32 ((rd_T43 t153 x11_1).f2))) (fun _ hk => hk.2) (.bool ((rd_T43 t153 x11_1).f3))) (fun _ hk => trivial)⟩, ⟨by repeat (first | (with_reducible first | exact HB.out | apply below_alloc | apply pw_below_drewN | apply below_drew1 | refine below_set ?_ GE157.out) | exact HB.out)⟩⟩
          · rw [if_neg c7] at H
            exact absurd H (by simp)
        · rw [if_neg c6] at H
          exact absurd H (by simp)
      · rw [if_neg c5] at H
        have c5b0 : decide (x11_1 < (t153.length : Int)) = false := decide_eq_false c5
        clear c5
        simp only [Option.some.injEq, Prod.mk.injEq] at H
        obtain ⟨rfl, rfl⟩ := H
        go_wp2
        go_ret2
        exact ⟨_, by first | rfl | (simp [errW_none, errW_some] <;> rfl) | (simp [*, errW_none, errW_some] <;> rfl), by (with_reducible repeat (first | apply Kd.R_alloc | apply Kd.R_drewN | apply Kd.R_drew)); exact HO_5.out, by repeat (first | (with_reducible first | exact HB.out | apply below_alloc | apply pw_below_drewN | apply below_drew1) | exact HB.out)⟩

end Go.Proofs.Ytkinpihjjelcpaa.PE
