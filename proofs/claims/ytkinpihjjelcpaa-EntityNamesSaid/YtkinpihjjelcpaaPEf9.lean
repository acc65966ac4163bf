-- PRINTED by print.py (a twelfth state) out of the translation; one function of its text, split off by splitprint.py and mended at two places by patch9.py. Not trusted: Lean checks it.
import Derived.Test.YtkinpihjjelcpaaPEEnt
import Derived.Test.YtkinpihjjelcpaaPEf20
import Derived.Test.YtkinpihjjelcpaaPEf22
namespace Go.Proofs.Ytkinpihjjelcpaa.PE
open Go.RowKit Go.Proofs.YtkinpihjjelcpaaW.PrintWords Go.Proofs.YtkinpihjjelcpaaW.PrintLast Go.Proofs.YtkinpihjjelcpaaW.PrintMore
attribute [local go_sem] max2_int min2_int max_two min_two max_three min_three max_four min_four   -- for this text's walks alone
set_option linter.unusedVariables false
set_option linter.unusedSimpArgs false

/-! ### entity_Longest: function 9 -/
mutual
def entity_Longest.l0 : Nat → ByteArray → Int → List Int → List (S43) → Int → Int → Option (Int × List Int)
  | 0, _, _, _, _, _, _ => none
  | k + 1, x0, x4, x5, x9, x10, x11 => if x11 < x10 then (if 0 ≤ x11 then (if x11 < (x9.length : Int) then ((strings_HasPrefix.f x0 ((rd_T43 x9 x11).f0)).bind fun t146 => (if t146 = true then (if (((rd_T43 x9 x11).f0).size : Int) < (x0.size : Int) then (if 0 ≤ (((rd_T43 x9 x11).f0).size : Int) then (entity_Longest.j1 k x0 x4 x5 (((rd_T43 x9 x11).f0).size : Int) x9 x10 x11 ((bt x0 (((rd_T43 x9 x11).f0).size : Int)) == 59) ((rd_T43 x9 x11).f0) ((rd_T43 x9 x11).f1) ((rd_T43 x9 x11).f2) ((rd_T43 x9 x11).f3)) else (none)) else (entity_Longest.j1 k x0 x4 x5 (((rd_T43 x9 x11).f0).size : Int) x9 x10 x11 false ((rd_T43 x9 x11).f0) ((rd_T43 x9 x11).f1) ((rd_T43 x9 x11).f2) ((rd_T43 x9 x11).f3))) else (entity_Longest.l0 k x0 x4 x5 x9 x10 (wrap64 (x11 + 1))))) else (none)) else (none)) else (some (x4, x5))
def entity_Longest.j1 : Nat → ByteArray → Int → List Int → Int → List (S43) → Int → Int → Bool → ByteArray → Int → Int → Bool → Option (Int × List Int)
  | 0, _, _, _, _, _, _, _, _, _, _, _, _ => none
  | k + 1, x0, x4, x5, x8, x9, x10, x11, x32, x146000, x146001, x146002, x146003 => if x32 = true then (if (wrap64 (x8 + 1)) > x4 then ((entity_says.f x146000 x146001 x146002 x146003).bind fun t147 => (entity_Longest.l0 k x0 (wrap64 (x8 + 1)) t147 x9 x10 (wrap64 (x11 + 1)))) else (entity_Longest.l0 k x0 x4 x5 x9 x10 (wrap64 (x11 + 1)))) else (if x146003 = true then (if x8 > x4 then ((entity_says.f x146000 x146001 x146002 x146003).bind fun t150 => (entity_Longest.l0 k x0 x8 t150 x9 x10 (wrap64 (x11 + 1)))) else (entity_Longest.l0 k x0 x4 x5 x9 x10 (wrap64 (x11 + 1)))) else (entity_Longest.l0 k x0 x4 x5 x9 x10 (wrap64 (x11 + 1))))
end
def entity_Longest.f (k : Nat) (a0 : ByteArray) : Option (Int × List Int) := (api_Entities.f).bind fun t141 => (entity_Longest.l0 k a0 0 ([] : List Int) t141 (t141.length : Int) 0)
theorem entity_Longest.mono_l : ∀ k, (∀ y0 y1 y2 y3 y4 y5, LeO (entity_Longest.l0 k y0 y1 y2 y3 y4 y5) (entity_Longest.l0 (k + 1) y0 y1 y2 y3 y4 y5)) ∧ (∀ y0 y1 y2 y3 y4 y5 y6 y7 y8 y9 y10 y11, LeO (entity_Longest.j1 k y0 y1 y2 y3 y4 y5 y6 y7 y8 y9 y10 y11) (entity_Longest.j1 (k + 1) y0 y1 y2 y3 y4 y5 y6 y7 y8 y9 y10 y11))
  | 0 => ⟨fun _ _ _ _ _ _ r h => by simp [entity_Longest.l0] at h, fun _ _ _ _ _ _ _ _ _ _ _ _ r h => by simp [entity_Longest.j1] at h⟩
  | k + 1 => by
    obtain ⟨ih0, ih1⟩ := entity_Longest.mono_l k
    refine ⟨?_, ?_⟩
    · intro y0 y1 y2 y3 y4 y5
      unfold entity_Longest.l0
      repeat' first
      | (with_reducible exact ih0 _ _ _ _ _ _)
      | (with_reducible exact ih1 _ _ _ _ _ _ _ _ _ _ _ _)
      | (with_reducible exact LeO.refl _)
      | (with_reducible exact LeO.none _)
      | (with_reducible refine LeO.ite ?_ ?_)
      | (with_reducible refine LeO.bind ?_ (fun _ => ?_))
      | exact ih0 _ _ _ _ _ _
      | exact ih1 _ _ _ _ _ _ _ _ _ _ _ _
      | exact LeO.none _
      | refine LeO.ite ?_ ?_
      | refine LeO.bind ?_ (fun _ => ?_)
    · intro y0 y1 y2 y3 y4 y5 y6 y7 y8 y9 y10 y11
      unfold entity_Longest.j1
      repeat' first
      | (with_reducible exact ih0 _ _ _ _ _ _)
      | (with_reducible exact ih1 _ _ _ _ _ _ _ _ _ _ _ _)
      | (with_reducible exact LeO.refl _)
      | (with_reducible exact LeO.none _)
      | (with_reducible refine LeO.ite ?_ ?_)
      | (with_reducible refine LeO.bind ?_ (fun _ => ?_))
      | exact ih0 _ _ _ _ _ _
      | exact ih1 _ _ _ _ _ _ _ _ _ _ _ _
      | exact LeO.none _
      | refine LeO.ite ?_ ?_
      | refine LeO.bind ?_ (fun _ => ?_)
theorem entity_Longest.mono : ∀ a0 k, LeO (entity_Longest.f k a0) (entity_Longest.f (k + 1) a0) := by
  intro a0 k
  obtain ⟨ih0, ih1⟩ := entity_Longest.mono_l k
  unfold entity_Longest.f
  repeat' first
      | (with_reducible exact ih0 _ _ _ _ _ _)
      | (with_reducible exact ih1 _ _ _ _ _ _ _ _ _ _ _ _)
      | (with_reducible exact LeO.refl _)
      | (with_reducible exact LeO.none _)
      | (with_reducible refine LeO.ite ?_ ?_)
      | (with_reducible refine LeO.bind ?_ (fun _ => ?_))
      | exact ih0 _ _ _ _ _ _
      | exact ih1 _ _ _ _ _ _ _ _ _ _ _ _
      | exact LeO.none _
      | refine LeO.ite ?_ ?_
      | refine LeO.bind ?_ (fun _ => ?_)
set_option maxHeartbeats 8000000 in
set_option maxRecDepth 100000 in
theorem entity_Longest.calls (k : Nat) (a0 : ByteArray) (r1 : Int) (r2 : List Int) (w : World) (h : entity_Longest.f k a0 = some (r1, r2)) :
    Calls Try.prog 9 #[.string a0] w fun e w' => ∃ v1_ : Value, e = .returned (.tuple #[.int .i64 r1, v1_]) ∧ Kd.R (Kd.int .i32) 21 w' w.heap.size (fun _ => True) v1_ r2 ∧ Below w.heap.size w w' := by
  have hu43 := Try.underlying43
  have HB := Aside0.mk (Below.refl w.heap.size w)
  have H : ((api_Entities.f).bind fun t141 => (entity_Longest.l0 k a0 0 ([] : List Int) t141 (t141.length : Int) 0)) = some (r1, r2) := h
  clear h
  replace H := Option.bind_eq_some_iff.mp H
  obtain ⟨t141, A20, H⟩ := H
  replace H : (entity_Longest.l0 k a0 0 ([] : List Int) t141 (t141.length : Int) 0) = some (r1, r2) := H
  have A2 := Aside0.mk A20
  clear A20
  have H' := Aside0.mk H
  clear H
  go_enter Try.func9, Try.ntmps9
  go_wp2_with (first | ((with_reducible refine gate_callee (f := 19) rfl ?_); refine goesL_ (some 9) rfl rfl Try.func19 (by kernel_rfl) rfl #[] rfl (by (try simp only [List.map_toArray, List.map_cons, List.map_nil]); first | done | rfl | (simp only [List.length_drop, List.length_take]; rfl)) ?_; (with_reducible refine (api_Entities.calls  t141 _ A2.out).mono ?_); rintro e w3 ⟨v142, rfl, ho0, hb⟩; refine ⟨_, rfl, ?_⟩; have n0_ := Aside0.mk (Kd.R_lower ho0 (below_size (by repeat (first | (with_reducible first | exact HB.out | apply below_alloc | apply pw_below_drewN | apply below_drew1) | exact HB.out)))); have n1_ := Aside0.mk (below_step (by repeat (first | (with_reducible first | exact HB.out | apply below_alloc | apply pw_below_drewN | apply below_drew1) | exact HB.out)) hb); clear HB; have HO143 := n0_; have HB := n1_; clear n0_ n1_; (try clear hb); (try clear hb2); (try clear hk); (try clear hi); (try clear ho0); obtain ⟨Ao4, co4, eo4⟩ := Kd.R_slice HO143.out; subst eo4))
  go_loopg [4, 5, 11] k (fun kq v4 v5 v11 w' => ∃ (x4_1 : Int) (x5_1 : List Int) (x11_1 : Int), v4 = .int .i64 x4_1 ∧ v11 = .int .i64 x11_1 ∧ Aside0 (entity_Longest.l0 kq a0 x4_1 x5_1 t141 (t141.length : Int) x11_1 = some (r1, r2)) ∧ Aside0 (kq ≤ k) ∧ Aside0 (Kd.R (Kd.int .i32) 21 w' w.heap.size (fun _ => True) v5 x5_1) ∧ Aside0 (Kd.R k43 43 w' w.heap.size (fun _ => True) (.slice Ao4 t141.length co4) t141) ∧ Aside0 (Below w.heap.size w w'))
  case atStart => exact ⟨(0), (([] : List Int)), (0), (by first | rfl | (simp; done) | (simp [*]; done)), (by first | rfl | (simp; done) | (simp [*]; done)), H', ⟨Nat.le_refl _⟩, ⟨by first | exact Kd.R_nil _ _ _ _ _ | exact Kd.N_nil _ _ _ _ _ | exact Kd.V_nil _ _ _ _ _ | exact Kd.Q_nil _ _ _ _ _ | exact Kd.S_nil _ _ _ _ _⟩, ⟨by (with_reducible repeat (first | apply Kd.R_alloc | apply Kd.R_drewN | apply Kd.R_drew)); exact HO143.out⟩, ⟨by repeat (first | (with_reducible first | exact HB.out | apply below_alloc | apply pw_below_drewN | apply below_drew1) | exact HB.out)⟩⟩
  case round =>
    clear H'
    try clear c1
    try clear p2
    obtain ⟨x4_1, x5_1, x11_1, rfl, rfl, HA, HK1, HO_5, HO_9, HB⟩ := hrel
    cases gk with
    | zero => exact absurd HA.out (by simp [entity_Longest.l0])
    | succ k1 =>
      have H := HA.out
      clear HA
      simp only [entity_Longest.l0] at H
      by_cases c5 : x11_1 < (t141.length : Int)
      · rw [if_pos c5] at H
        have c5b0 : decide (x11_1 < (t141.length : Int)) = true := decide_eq_true c5
        clear c5
        by_cases c6 : 0 ≤ x11_1
        · rw [if_pos c6] at H
          have c6b0 : decide (0 ≤ x11_1) = true := decide_eq_true c6
          clear c6
          by_cases c7 : x11_1 < (t141.length : Int)
          · rw [if_pos c7] at H
            have c7b0 : decide (x11_1 < (t141.length : Int)) = true := decide_eq_true c7
            clear c7
            replace H := Option.bind_eq_some_iff.mp H
            obtain ⟨t146, A80, H⟩ := H
            replace H : (if t146 = true then (if (((rd_T43 t141 x11_1).f0).size : Int) < (a0.size : Int) then (if 0 ≤ (((rd_T43 t141 x11_1).f0).size : Int) then (entity_Longest.j1 k1 a0 x4_1 x5_1 (((rd_T43 t141 x11_1).f0).size : Int) t141 (t141.length : Int) x11_1 ((bt a0 (((rd_T43 t141 x11_1).f0).size : Int)) == 59) ((rd_T43 t141 x11_1).f0) ((rd_T43 t141 x11_1).f1) ((rd_T43 t141 x11_1).f2) ((rd_T43 t141 x11_1).f3)) else (none)) else (entity_Longest.j1 k1 a0 x4_1 x5_1 (((rd_T43 t141 x11_1).f0).size : Int) t141 (t141.length : Int) x11_1 false ((rd_T43 t141 x11_1).f0) ((rd_T43 t141 x11_1).f1) ((rd_T43 t141 x11_1).f2) ((rd_T43 t141 x11_1).f3))) else (entity_Longest.l0 k1 a0 x4_1 x5_1 t141 (t141.length : Int) (wrap64 (x11_1 + 1)))) = some (r1, r2) := H
            have A8 := Aside0.mk A80
            clear A80
            by_cases c9 : t146 = true
            · subst c9
              have H1 : (if (((rd_T43 t141 x11_1).f0).size : Int) < (a0.size : Int) then (if 0 ≤ (((rd_T43 t141 x11_1).f0).size : Int) then (entity_Longest.j1 k1 a0 x4_1 x5_1 (((rd_T43 t141 x11_1).f0).size : Int) t141 (t141.length : Int) x11_1 ((bt a0 (((rd_T43 t141 x11_1).f0).size : Int)) == 59) ((rd_T43 t141 x11_1).f0) ((rd_T43 t141 x11_1).f1) ((rd_T43 t141 x11_1).f2) ((rd_T43 t141 x11_1).f3)) else (none)) else (entity_Longest.j1 k1 a0 x4_1 x5_1 (((rd_T43 t141 x11_1).f0).size : Int) t141 (t141.length : Int) x11_1 false ((rd_T43 t141 x11_1).f0) ((rd_T43 t141 x11_1).f1) ((rd_T43 t141 x11_1).f2) ((rd_T43 t141 x11_1).f3))) = some (r1, r2) := by rw [if_pos rfl] at H; exact H
              clear H
              have H := H1
              clear H1
              have HC10 := Aside0.mk H
              clear H
              have p144 : 0 ≤ (x11_1 : Int) := of_decide_eq_true (by first | (with_reducible assumption) | assumption)
              have q144 : x11_1 < (t141.length : Int) := of_decide_eq_true (by first | (with_reducible assumption) | assumption)
              obtain ⟨ad144, e144, hx144_0, hx144_1, hx144_2, hx144_3⟩ := at_T43 (Kd.R_reads' HO_9.out).2.2 x11_1 p144 q144
              cases e144
              replace p144 := eq_true p144
              replace q144 := eq_true q144
              go_upto_region 8 with (first | ((with_reducible refine gate_dst (N := 7) rfl ?_); refine box_event ?hg (N := 7) ?hd (cs := #[.string (⟨#[]⟩ : ByteArray), .int .i32 0, .int .i32 0, .bool false]) (t := 43) ?hr ?_; (case hd => rfl); (case hg => rfl); (case hr => first | (go_simp; done) | (go_simp; rfl)); intro gb145 hg w11 hbox hb; have n0_ := Aside0.mk (Kd.R_below (by (with_reducible repeat (first | apply Kd.R_alloc | apply Kd.R_drewN | apply Kd.R_drew)); exact HO_5.out) hb); have n1_ := Aside0.mk (Kd.R_below (Kd.R_elderB (by (with_reducible repeat (first | apply Kd.R_alloc | apply Kd.R_drewN | apply Kd.R_drew)); exact HO_9.out) gb145 (Nat.le_of_eq hg.symm)) hb); have n2_ := Aside0.mk (below_step (by repeat (first | (with_reducible first | exact HB.out | apply below_alloc | apply pw_below_drewN | apply below_drew1) | exact HB.out)) hb); have n3_ := Aside0.mk (hbox); have n4_ := Aside0.mk ((by rw [hg]; exact (below_size (by repeat (first | (with_reducible first | exact HB.out | apply below_alloc | apply pw_below_drewN | apply below_drew1) | exact HB.out))) : w.heap.size ≤ gb145)); have n5_ := Aside0.mk ((by rw [hg]; exact (below_size (by repeat (first | (with_reducible first | exact HB.out | apply below_alloc | apply pw_below_drewN | apply below_drew1) | exact HB.out))) : w.heap.size ≤ gb145)); clear HO_5; clear HO_9; clear HB; have HO_5 := n0_; have HO_9 := n1_; have HB := n2_; have BK145 := n3_; have GW145 := n4_; have GE145 := n5_; clear n0_ n1_ n2_ n3_ n4_ n5_; clear hb hbox hg; have hcz12_0 : w11.cell? ⟨gb145, 0, none⟩ = some (.string (⟨#[]⟩ : ByteArray)) := (blk_cell BK145.out 0).trans rfl; have hcz12_1 : w11.cell? ⟨gb145, 1, none⟩ = some (.int .i32 0) := (blk_cell BK145.out 1).trans rfl; have hcz12_2 : w11.cell? ⟨gb145, 2, none⟩ = some (.int .i32 0) := (blk_cell BK145.out 2).trans rfl; have hcz12_3 : w11.cell? ⟨gb145, 3, none⟩ = some (.bool false) := (blk_cell BK145.out 3).trans rfl; have hfz12_0 := blk_frozen BK145.out 0; have hfz12_1 := blk_frozen BK145.out 1; have hfz12_2 := blk_frozen BK145.out 2; have hfz12_3 := blk_frozen BK145.out 3) | ((with_reducible refine gate_callee (f := 22) rfl ?_); refine goesL_ (some 18) rfl rfl Try.func22 (by kernel_rfl) rfl #[.string a0, .string ((rd_T43 t141 x11_1).f0)] rfl (by (try simp only [List.map_toArray, List.map_cons, List.map_nil]); first | done | rfl | (simp only [List.length_drop, List.length_take]; rfl)) ?_; (with_reducible refine (strings_HasPrefix.calls a0 ((rd_T43 t141 x11_1).f0) true _ A8.out).mono ?_); rintro e w' ⟨rfl, ⟨nd, rfl⟩⟩; refine ⟨_, rfl, ?_⟩))
              (try simp only [Act.put, List.setIfInBounds_toArray, List.set_cons_zero, List.set_cons_succ])
              go_cut [32] (fun v32 wc => ∃ (kq : Nat) (x32_9 : Bool), v32 = .bool x32_9 ∧ Aside0 (entity_Longest.j1 kq a0 x4_1 x5_1 (((rd_T43 t141 x11_1).f0).size : Int) t141 (t141.length : Int) x11_1 x32_9 ((rd_T43 t141 x11_1).f0) ((rd_T43 t141 x11_1).f1) ((rd_T43 t141 x11_1).f2) ((rd_T43 t141 x11_1).f3) = some (r1, r2)) ∧ Aside0 (kq ≤ k1) ∧ Aside0 (Kd.R (Kd.int .i32) 21 wc w.heap.size (fun _ => True) u5 x5_1) ∧ Aside0 (Kd.R k43 43 wc w.heap.size (fun k_ => k_ ≠ gb145) (.slice (some ad144) t141.length co4) t141) ∧ Aside0 (wc.heap[gb145]? = some (.cells #[.string ((rd_T43 t141 x11_1).f0), .int .i32 ((rd_T43 t141 x11_1).f1), .int .i32 ((rd_T43 t141 x11_1).f2), .bool ((rd_T43 t141 x11_1).f3)] 43 (0, 0))) ∧ Aside0 (Below w.heap.size w wc))
              case first =>
                have H := HC10.out
                clear HC10
                by_cases c13 : (((rd_T43 t141 x11_1).f0).size : Int) < (a0.size : Int)
                · rw [if_pos c13] at H
                  have c13b0 : decide ((((rd_T43 t141 x11_1).f0).size : Int) < (a0.size : Int)) = true := decide_eq_true c13
                  have c13b1 : decide (((rd_T43 t141 x11_1).f0).size < a0.size) = true := decide_eq_true (Int.ofNat_lt.mp c13)
                  clear c13
                  (first | rw [c13b0] | (simp only [i64_w, i32_w]; rw [c13b0]) | skip)
                  by_cases c14 : 0 ≤ (((rd_T43 t141 x11_1).f0).size : Int)
                  · rw [if_pos c14] at H
                    have c14b0 : decide (0 ≤ (((rd_T43 t141 x11_1).f0).size : Int)) = true := decide_eq_true c14
                    have c14b1 : decide (0 ≤ ((rd_T43 t141 x11_1).f0).size) = true := decide_eq_true (by omega)
                    clear c14
                    have H' := Aside0.mk H
                    clear H
                    have p15 : 0 ≤ ((((rd_T43 t141 x11_1).f0).size : Int) : Int) := of_decide_eq_true (by first | (with_reducible assumption) | assumption)
                    have q15 : (((rd_T43 t141 x11_1).f0).size : Int) < (a0.size : Int) := of_decide_eq_true (by first | (with_reducible assumption) | assumption)
                    have hx15 := bt_at a0 (((rd_T43 t141 x11_1).f0).size : Int)
                    replace p15 := eq_true p15
                    replace q15 := eq_true q15
                    go_wp2
                    go_meet
                    case rel => exact ⟨_, (((bt a0 (((rd_T43 t141 x11_1).f0).size : Int)) == 59)), (by have z := hx15 (by simpa using of_decide_eq_true c13b1); simp only [Int.toNat_natCast] at z; exact congrArg (fun y : Int => Value.bool (y == 59)) z), H', ⟨by have := HK1.out; first | omega | exact Nat.le_refl _⟩, ⟨by (with_reducible repeat (first | apply Kd.R_alloc | apply Kd.R_drewN | apply Kd.R_drew)); exact Kd.R_mono (Kd.R_far (p := ⟨gb145, 3, none⟩) (Kd.R_far (p := ⟨gb145, 2, none⟩) (Kd.R_far (p := ⟨gb145, 1, none⟩) (Kd.R_far (p := ⟨gb145, 0, none⟩) (Kd.R_types HO_5.out BK145.out (by decide)) (fun _ hk => hk.2) (.string ((rd_T43 t141 x11_1).f0))) (fun _ hk => hk.2) (.int .i32 ((rd_T43 t141 x11_1).f1))) (fun _ hk => hk.2) (.int .i32 ((rd_T43 t141 x11_1).f2))) (fun _ hk => hk.2) (.bool ((rd_T43 t141 x11_1).f3))) (fun _ hk => trivial)⟩, ⟨by (with_reducible repeat (first | apply Kd.R_alloc | apply Kd.R_drewN | apply Kd.R_drew)); exact Kd.R_mono (Kd.R_far (p := ⟨gb145, 3, none⟩) (Kd.R_far (p := ⟨gb145, 2, none⟩) (Kd.R_far (p := ⟨gb145, 1, none⟩) (Kd.R_far (p := ⟨gb145, 0, none⟩) (Kd.R_mono HO_9.out (fun k_ hk => (⟨hk, hk.2⟩ : _ ∧ k_ ≠ gb145))) (fun _ hk => hk.2) (.string ((rd_T43 t141 x11_1).f0))) (fun _ hk => hk.2) (.int .i32 ((rd_T43 t141 x11_1).f1))) (fun _ hk => hk.2) (.int .i32 ((rd_T43 t141 x11_1).f2))) (fun _ hk => hk.2) (.bool ((rd_T43 t141 x11_1).f3))) (fun _ hk => hk.1.2)⟩, ⟨by (with_reducible repeat (first | refine blk_drewN ?_ _ | refine blk_drew ?_ | refine blk_alloc ?_ _)); refine blk_put (cs := #[.string ((rd_T43 t141 x11_1).f0), .int .i32 ((rd_T43 t141 x11_1).f1), .int .i32 ((rd_T43 t141 x11_1).f2), .bool false]) ?_ 3 _ rfl; (with_reducible repeat (first | refine blk_drewN ?_ _ | refine blk_drew ?_ | refine blk_alloc ?_ _)); refine blk_put (cs := #[.string ((rd_T43 t141 x11_1).f0), .int .i32 ((rd_T43 t141 x11_1).f1), .int .i32 0, .bool false]) ?_ 2 _ rfl; (with_reducible repeat (first | refine blk_drewN ?_ _ | refine blk_drew ?_ | refine blk_alloc ?_ _)); refine blk_put (cs := #[.string ((rd_T43 t141 x11_1).f0), .int .i32 0, .int .i32 0, .bool false]) ?_ 1 _ rfl; (with_reducible repeat (first | refine blk_drewN ?_ _ | refine blk_drew ?_ | refine blk_alloc ?_ _)); refine blk_put (cs := #[.string (⟨#[]⟩ : ByteArray), .int .i32 0, .int .i32 0, .bool false]) ?_ 0 _ rfl; (with_reducible repeat (first | refine blk_drewN ?_ _ | refine blk_drew ?_ | refine blk_alloc ?_ _)); exact BK145.out⟩, ⟨by repeat (first | (with_reducible first | exact HB.out | apply below_alloc | apply pw_below_drewN | apply below_drew1 | refine below_set ?_ GE145.out) | exact HB.out)⟩⟩
                  · rw [if_neg c14] at H
                    exact absurd H (by simp)
                · rw [if_neg c13] at H
                  have c13b0 : decide ((((rd_T43 t141 x11_1).f0).size : Int) < (a0.size : Int)) = false := decide_eq_false c13
                  have c13b1 : decide (((rd_T43 t141 x11_1).f0).size < a0.size) = false := decide_eq_false (fun h => c13 (Int.ofNat_lt.mpr h))
                  clear c13
                  (first | rw [c13b0] | (simp only [i64_w, i32_w]; rw [c13b0]) | skip)
                  have H' := Aside0.mk H
                  clear H
                  go_wp2
                  go_meet
                  case rel => exact ⟨_, (false), (by first | rfl | (simp; done) | (simp [*]; done)), H', ⟨by have := HK1.out; first | omega | exact Nat.le_refl _⟩, ⟨by (with_reducible repeat (first | apply Kd.R_alloc | apply Kd.R_drewN | apply Kd.R_drew)); exact Kd.R_mono (Kd.R_far (p := ⟨gb145, 3, none⟩) (Kd.R_far (p := ⟨gb145, 2, none⟩) (Kd.R_far (p := ⟨gb145, 1, none⟩) (Kd.R_far (p := ⟨gb145, 0, none⟩) (Kd.R_types HO_5.out BK145.out (by decide)) (fun _ hk => hk.2) (.string ((rd_T43 t141 x11_1).f0))) (fun _ hk => hk.2) (.int .i32 ((rd_T43 t141 x11_1).f1))) (fun _ hk => hk.2) (.int .i32 ((rd_T43 t141 x11_1).f2))) (fun _ hk => hk.2) (.bool ((rd_T43 t141 x11_1).f3))) (fun _ hk => trivial)⟩, ⟨by (with_reducible repeat (first | apply Kd.R_alloc | apply Kd.R_drewN | apply Kd.R_drew)); exact Kd.R_mono (Kd.R_far (p := ⟨gb145, 3, none⟩) (Kd.R_far (p := ⟨gb145, 2, none⟩) (Kd.R_far (p := ⟨gb145, 1, none⟩) (Kd.R_far (p := ⟨gb145, 0, none⟩) (Kd.R_mono HO_9.out (fun k_ hk => (⟨hk, hk.2⟩ : _ ∧ k_ ≠ gb145))) (fun _ hk => hk.2) (.string ((rd_T43 t141 x11_1).f0))) (fun _ hk => hk.2) (.int .i32 ((rd_T43 t141 x11_1).f1))) (fun _ hk => hk.2) (.int .i32 ((rd_T43 t141 x11_1).f2))) (fun _ hk => hk.2) (.bool ((rd_T43 t141 x11_1).f3))) (fun _ hk => hk.1.2)⟩, ⟨by (with_reducible repeat (first | refine blk_drewN ?_ _ | refine blk_drew ?_ | refine blk_alloc ?_ _)); refine blk_put (cs := #[.string ((rd_T43 t141 x11_1).f0), .int .i32 ((rd_T43 t141 x11_1).f1), .int .i32 ((rd_T43 t141 x11_1).f2), .bool false]) ?_ 3 _ rfl; (with_reducible repeat (first | refine blk_drewN ?_ _ | refine blk_drew ?_ | refine blk_alloc ?_ _)); refine blk_put (cs := #[.string ((rd_T43 t141 x11_1).f0), .int .i32 ((rd_T43 t141 x11_1).f1), .int .i32 0, .bool false]) ?_ 2 _ rfl; (with_reducible repeat (first | refine blk_drewN ?_ _ | refine blk_drew ?_ | refine blk_alloc ?_ _)); refine blk_put (cs := #[.string ((rd_T43 t141 x11_1).f0), .int .i32 0, .int .i32 0, .bool false]) ?_ 1 _ rfl; (with_reducible repeat (first | refine blk_drewN ?_ _ | refine blk_drew ?_ | refine blk_alloc ?_ _)); refine blk_put (cs := #[.string (⟨#[]⟩ : ByteArray), .int .i32 0, .int .i32 0, .bool false]) ?_ 0 _ rfl; (with_reducible repeat (first | refine blk_drewN ?_ _ | refine blk_drew ?_ | refine blk_alloc ?_ _)); exact BK145.out⟩, ⟨by repeat (first | (with_reducible first | exact HB.out | apply below_alloc | apply pw_below_drewN | apply below_drew1 | refine below_set ?_ GE145.out) | exact HB.out)⟩⟩
              case rest =>
                clear HC10
                try clear c1
                try clear p1
                try clear q1
                try clear hx1
                try clear c2
                try clear p2
                try clear c5
                try clear c5b0
                try clear c6
                try clear c6b0
                try clear p6
                try clear c7
                try clear c7b0
                try clear c9
                try clear c13
                try clear c13b0
                try clear c13b1
                try clear c14
                try clear c14b0
                try clear c14b1
                try clear p14
                try clear q14
                try clear hx14
                try clear p15
                try clear q15
                try clear hx15
                try clear hcz12_0
                try clear hcz12_1
                try clear hcz12_2
                try clear hcz12_3
                try clear hfz12_0
                try clear hfz12_1
                try clear hfz12_2
                try clear hfz12_3
                try clear hx144_0
                try clear hx144_1
                try clear hx144_2
                try clear hx144_3
                try clear p144
                try clear p15
                try clear p2
                try clear q144
                try clear q15
                obtain ⟨kq, x32_9, rfl, HA, HJ9, HO_5, HO_9, BK145, HB⟩ := hcut
                cases kq with
                | zero => exact absurd HA.out (by simp [entity_Longest.j1])
                | succ kj9 =>
                  have H := HA.out
                  clear HA
                  simp only [entity_Longest.j1] at H
                  by_cases c16 : x32_9 = true
                  · subst c16
                    have H1 : (if (wrap64 ((((rd_T43 t141 x11_1).f0).size : Int) + 1)) > x4_1 then ((entity_says.f ((rd_T43 t141 x11_1).f0) ((rd_T43 t141 x11_1).f1) ((rd_T43 t141 x11_1).f2) ((rd_T43 t141 x11_1).f3)).bind fun t147 => (entity_Longest.l0 kj9 a0 (wrap64 ((((rd_T43 t141 x11_1).f0).size : Int) + 1)) t147 t141 (t141.length : Int) (wrap64 (x11_1 + 1)))) else (entity_Longest.l0 kj9 a0 x4_1 x5_1 t141 (t141.length : Int) (wrap64 (x11_1 + 1)))) = some (r1, r2) := by rw [if_pos rfl] at H; exact H
                    clear H
                    have H := H1
                    clear H1
                    by_cases c17 : (wrap64 ((((rd_T43 t141 x11_1).f0).size : Int) + 1)) > x4_1
                    · rw [if_pos c17] at H
                      have c17b0 : decide (x4_1 < (wrap64 ((((rd_T43 t141 x11_1).f0).size : Int) + 1))) = true := decide_eq_true c17
                      clear c17
                      replace H := Option.bind_eq_some_iff.mp H
                      obtain ⟨t147, A180, H⟩ := H
                      replace H : (entity_Longest.l0 kj9 a0 (wrap64 ((((rd_T43 t141 x11_1).f0).size : Int) + 1)) t147 t141 (t141.length : Int) (wrap64 (x11_1 + 1))) = some (r1, r2) := H
                      have A18 := Aside0.mk A180
                      clear A180
                      have H' := Aside0.mk H
                      clear H
                      have hcz19_0 : wc.cell? ⟨gb145, 0, none⟩ = some (.string ((rd_T43 t141 x11_1).f0)) := (blk_cell BK145.out 0).trans rfl
                      have hcz19_1 : wc.cell? ⟨gb145, 1, none⟩ = some (.int .i32 ((rd_T43 t141 x11_1).f1)) := (blk_cell BK145.out 1).trans rfl
                      have hcz19_2 : wc.cell? ⟨gb145, 2, none⟩ = some (.int .i32 ((rd_T43 t141 x11_1).f2)) := (blk_cell BK145.out 2).trans rfl
                      have hcz19_3 : wc.cell? ⟨gb145, 3, none⟩ = some (.bool ((rd_T43 t141 x11_1).f3)) := (blk_cell BK145.out 3).trans rfl
                      have hfz19_0 := blk_frozen BK145.out 0
                      have hfz19_1 := blk_frozen BK145.out 1
                      have hfz19_2 := blk_frozen BK145.out 2
                      have hfz19_3 := blk_frozen BK145.out 3
                      go_wp2_with (first | ((with_reducible refine gate_callee (f := 20) rfl ?_); refine goesL_ (some 43) rfl rfl Try.func20 (by kernel_rfl) rfl #[.agg #[.string ((rd_T43 t141 x11_1).f0), .int .i32 ((rd_T43 t141 x11_1).f1), .int .i32 ((rd_T43 t141 x11_1).f2), .bool ((rd_T43 t141 x11_1).f3)]] rfl (by (try simp only [List.map_toArray, List.map_cons, List.map_nil]); first | done | rfl | (simp only [List.length_drop, List.length_take]; rfl)) ?_; (with_reducible refine (entity_says.calls ((rd_T43 t141 x11_1).f0) ((rd_T43 t141 x11_1).f1) ((rd_T43 t141 x11_1).f2) ((rd_T43 t141 x11_1).f3) t147 _ A18.out).mono ?_); rintro e w20 ⟨v148, rfl, ho0, hb⟩; refine ⟨_, rfl, ?_⟩; have n0_ := Aside0.mk (Kd.R_elder' (by (with_reducible repeat (first | apply Kd.R_alloc | apply Kd.R_drewN | apply Kd.R_drew)); exact HO_5.out) (Kd.R_base ho0) hb); have n1_ := Aside0.mk (Kd.R_below (by (with_reducible repeat (first | apply Kd.R_alloc | apply Kd.R_drewN | apply Kd.R_drew)); exact HO_9.out) hb); have n2_ := Aside0.mk (Kd.R_lower (Kd.R_new' ho0 (Kd.R_lt (by (with_reducible repeat (first | apply Kd.R_alloc | apply Kd.R_drewN | apply Kd.R_drew)); exact HO_5.out))) (below_size (by repeat (first | (with_reducible first | exact HB.out | apply below_alloc | apply pw_below_drewN | apply below_drew1 | refine below_set ?_ GE145.out) | exact HB.out)))); have n3_ := Aside0.mk (blk_below (g := gb145) (o := .cells #[.string ((rd_T43 t141 x11_1).f0), .int .i32 ((rd_T43 t141 x11_1).f1), .int .i32 ((rd_T43 t141 x11_1).f2), .bool ((rd_T43 t141 x11_1).f3)] 43 (0, 0)) (by (with_reducible repeat (first | refine blk_drewN ?_ _ | refine blk_drew ?_ | refine blk_alloc ?_ _)); exact BK145.out) hb); have n4_ := Aside0.mk (below_step (by repeat (first | (with_reducible first | exact HB.out | apply below_alloc | apply pw_below_drewN | apply below_drew1 | refine below_set ?_ GE145.out) | exact HB.out)) hb); clear HO_5; clear HO_9; clear BK145; clear HB; have HO_5 := n0_; have HO_9 := n1_; have HO149 := n2_; have BK145 := n3_; have HB := n4_; clear n0_ n1_ n2_ n3_ n4_; (try clear hb); (try clear hb2); (try clear hk); (try clear hi); (try clear ho0)))
                      go_roundg kj9
                      case measure => have := HK1.out; have := HJ9.out; omega
                      case rel => exact ⟨(wrap64 ((((rd_T43 t141 x11_1).f0).size : Int) + 1)), (t147), (wrap64 (x11_1 + 1)), (by first | rfl | (simp; done) | (simp [*]; done)), (by first | rfl | (simp; done) | (simp [*]; done)), H', ⟨by have := HK1.out; have := HJ9.out; omega⟩, ⟨by (with_reducible repeat (first | apply Kd.R_alloc | apply Kd.R_drewN | apply Kd.R_drew)); exact Kd.R_mono HO149.out (fun _ hk => trivial)⟩, ⟨by (with_reducible repeat (first | apply Kd.R_alloc | apply Kd.R_drewN | apply Kd.R_drew)); exact Kd.R_mono HO_9.out (fun _ hk => trivial)⟩, ⟨by repeat (first | (with_reducible first | exact HB.out | apply below_alloc | apply pw_below_drewN | apply below_drew1 | refine below_set ?_ GE145.out) | exact HB.out)⟩⟩
                    · rw [if_neg c17] at H
                      have c17b0 : decide (x4_1 < (wrap64 ((((rd_T43 t141 x11_1).f0).size : Int) + 1))) = false := decide_eq_false c17
                      clear c17
                      have H' := Aside0.mk H
                      clear H
                      go_wp2
                      go_roundg kj9
                      case measure => have := HK1.out; have := HJ9.out; omega
                      case rel => exact ⟨(x4_1), (x5_1), (wrap64 (x11_1 + 1)), (by first | rfl | (simp; done) | (simp [*]; done)), (by first | rfl | (simp; done) | (simp [*]; done)), H', ⟨by have := HK1.out; have := HJ9.out; omega⟩, ⟨by (with_reducible repeat (first | apply Kd.R_alloc | apply Kd.R_drewN | apply Kd.R_drew)); exact HO_5.out⟩, ⟨by (with_reducible repeat (first | apply Kd.R_alloc | apply Kd.R_drewN | apply Kd.R_drew)); exact Kd.R_mono HO_9.out (fun _ hk => trivial)⟩, ⟨by repeat (first | (with_reducible first | exact HB.out | apply below_alloc | apply pw_below_drewN | apply below_drew1 | refine below_set ?_ GE145.out) | exact HB.out)⟩⟩
                  · replace c16 := Bool.eq_false_iff.mpr c16
                    subst c16
                    have H1 : (if ((rd_T43 t141 x11_1).f3) = true then (if (((rd_T43 t141 x11_1).f0).size : Int) > x4_1 then ((entity_says.f ((rd_T43 t141 x11_1).f0) ((rd_T43 t141 x11_1).f1) ((rd_T43 t141 x11_1).f2) ((rd_T43 t141 x11_1).f3)).bind fun t150 => (entity_Longest.l0 kj9 a0 (((rd_T43 t141 x11_1).f0).size : Int) t150 t141 (t141.length : Int) (wrap64 (x11_1 + 1)))) else (entity_Longest.l0 kj9 a0 x4_1 x5_1 t141 (t141.length : Int) (wrap64 (x11_1 + 1)))) else (entity_Longest.l0 kj9 a0 x4_1 x5_1 t141 (t141.length : Int) (wrap64 (x11_1 + 1)))) = some (r1, r2) := by rw [if_neg (show ¬ (false = true) by decide)] at H; exact H
                    clear H
                    have H := H1
                    clear H1
                    by_cases c21 : ((rd_T43 t141 x11_1).f3) = true
                    · rw [if_pos c21] at H
                      have c21b0 : ((rd_T43 t141 x11_1).f3) = true := c21
                      clear c21
                      by_cases c22 : (((rd_T43 t141 x11_1).f0).size : Int) > x4_1
                      · rw [if_pos c22] at H
                        have c22b0 : decide (x4_1 < (((rd_T43 t141 x11_1).f0).size : Int)) = true := decide_eq_true c22
                        clear c22
                        replace H := Option.bind_eq_some_iff.mp H
                        obtain ⟨t150, A230, H⟩ := H
                        replace H : (entity_Longest.l0 kj9 a0 (((rd_T43 t141 x11_1).f0).size : Int) t150 t141 (t141.length : Int) (wrap64 (x11_1 + 1))) = some (r1, r2) := H
                        rw [c21b0] at A230
                        have A23 := Aside0.mk A230
                        clear A230
                        have H' := Aside0.mk H
                        clear H
                        have hcz24_0 : wc.cell? ⟨gb145, 0, none⟩ = some (.string ((rd_T43 t141 x11_1).f0)) := (blk_cell BK145.out 0).trans rfl
                        have hcz24_1 : wc.cell? ⟨gb145, 1, none⟩ = some (.int .i32 ((rd_T43 t141 x11_1).f1)) := (blk_cell BK145.out 1).trans rfl
                        have hcz24_2 : wc.cell? ⟨gb145, 2, none⟩ = some (.int .i32 ((rd_T43 t141 x11_1).f2)) := (blk_cell BK145.out 2).trans rfl
                        have hcz24_3 : wc.cell? ⟨gb145, 3, none⟩ = some (.bool ((rd_T43 t141 x11_1).f3)) := (blk_cell BK145.out 3).trans rfl
                        have hfz24_0 := blk_frozen BK145.out 0
                        have hfz24_1 := blk_frozen BK145.out 1
                        have hfz24_2 := blk_frozen BK145.out 2
                        have hfz24_3 := blk_frozen BK145.out 3
                        go_wp2_with (first | ((with_reducible refine gate_callee (f := 20) rfl ?_); refine goesL_ (some 43) rfl rfl Try.func20 (by kernel_rfl) rfl #[.agg #[.string ((rd_T43 t141 x11_1).f0), .int .i32 ((rd_T43 t141 x11_1).f1), .int .i32 ((rd_T43 t141 x11_1).f2), .bool true]] rfl (by (try simp only [List.map_toArray, List.map_cons, List.map_nil]); first | done | rfl | (simp only [List.length_drop, List.length_take]; rfl)) ?_; (with_reducible refine (entity_says.calls ((rd_T43 t141 x11_1).f0) ((rd_T43 t141 x11_1).f1) ((rd_T43 t141 x11_1).f2) true t150 _ A23.out).mono ?_); rintro e w25 ⟨v151, rfl, ho0, hb⟩; refine ⟨_, rfl, ?_⟩; have n0_ := Aside0.mk (Kd.R_elder' (by (with_reducible repeat (first | apply Kd.R_alloc | apply Kd.R_drewN | apply Kd.R_drew)); exact HO_5.out) (Kd.R_base ho0) hb); have n1_ := Aside0.mk (Kd.R_below (by (with_reducible repeat (first | apply Kd.R_alloc | apply Kd.R_drewN | apply Kd.R_drew)); exact HO_9.out) hb); have n2_ := Aside0.mk (Kd.R_lower (Kd.R_new' ho0 (Kd.R_lt (by (with_reducible repeat (first | apply Kd.R_alloc | apply Kd.R_drewN | apply Kd.R_drew)); exact HO_5.out))) (below_size (by repeat (first | (with_reducible first | exact HB.out | apply below_alloc | apply pw_below_drewN | apply below_drew1 | refine below_set ?_ GE145.out) | exact HB.out)))); have n3_ := Aside0.mk (blk_below (g := gb145) (o := .cells #[.string ((rd_T43 t141 x11_1).f0), .int .i32 ((rd_T43 t141 x11_1).f1), .int .i32 ((rd_T43 t141 x11_1).f2), .bool ((rd_T43 t141 x11_1).f3)] 43 (0, 0)) (by (with_reducible repeat (first | refine blk_drewN ?_ _ | refine blk_drew ?_ | refine blk_alloc ?_ _)); exact BK145.out) hb); have n4_ := Aside0.mk (below_step (by repeat (first | (with_reducible first | exact HB.out | apply below_alloc | apply pw_below_drewN | apply below_drew1 | refine below_set ?_ GE145.out) | exact HB.out)) hb); clear HO_5; clear HO_9; clear BK145; clear HB; have HO_5 := n0_; have HO_9 := n1_; have HO152 := n2_; have BK145 := n3_; have HB := n4_; clear n0_ n1_ n2_ n3_ n4_; (try clear hb); (try clear hb2); (try clear hk); (try clear hi); (try clear ho0)))
                        go_roundg kj9
                        case measure => have := HK1.out; have := HJ9.out; omega
                        case rel => exact ⟨((((rd_T43 t141 x11_1).f0).size : Int)), (t150), (wrap64 (x11_1 + 1)), (by first | rfl | (simp; done) | (simp [*]; done)), (by first | rfl | (simp; done) | (simp [*]; done)), H', ⟨by have := HK1.out; have := HJ9.out; omega⟩, ⟨by (with_reducible repeat (first | apply Kd.R_alloc | apply Kd.R_drewN | apply Kd.R_drew)); exact Kd.R_mono HO152.out (fun _ hk => trivial)⟩, ⟨by (with_reducible repeat (first | apply Kd.R_alloc | apply Kd.R_drewN | apply Kd.R_drew)); exact Kd.R_mono HO_9.out (fun _ hk => trivial)⟩, ⟨by repeat (first | (with_reducible first | exact HB.out | apply below_alloc | apply pw_below_drewN | apply below_drew1 | refine below_set ?_ GE145.out) | exact HB.out)⟩⟩
                      · rw [if_neg c22] at H
                        have c22b0 : decide (x4_1 < (((rd_T43 t141 x11_1).f0).size : Int)) = false := decide_eq_false c22
                        clear c22
                        have H' := Aside0.mk H
                        clear H
                        have hcz26_0 : wc.cell? ⟨gb145, 0, none⟩ = some (.string ((rd_T43 t141 x11_1).f0)) := (blk_cell BK145.out 0).trans rfl
                        have hcz26_1 : wc.cell? ⟨gb145, 1, none⟩ = some (.int .i32 ((rd_T43 t141 x11_1).f1)) := (blk_cell BK145.out 1).trans rfl
                        have hcz26_2 : wc.cell? ⟨gb145, 2, none⟩ = some (.int .i32 ((rd_T43 t141 x11_1).f2)) := (blk_cell BK145.out 2).trans rfl
                        have hcz26_3 : wc.cell? ⟨gb145, 3, none⟩ = some (.bool ((rd_T43 t141 x11_1).f3)) := (blk_cell BK145.out 3).trans rfl
                        have hfz26_0 := blk_frozen BK145.out 0
                        have hfz26_1 := blk_frozen BK145.out 1
                        have hfz26_2 := blk_frozen BK145.out 2
                        have hfz26_3 := blk_frozen BK145.out 3
                        go_wp2
                        go_roundg kj9
                        case measure => have := HK1.out; have := HJ9.out; omega
                        case rel => exact ⟨(x4_1), (x5_1), (wrap64 (x11_1 + 1)), (by first | rfl | (simp; done) | (simp [*]; done)), (by first | rfl | (simp; done) | (simp [*]; done)), H', ⟨by have := HK1.out; have := HJ9.out; omega⟩, ⟨by (with_reducible repeat (first | apply Kd.R_alloc | apply Kd.R_drewN | apply Kd.R_drew)); exact HO_5.out⟩, ⟨by (with_reducible repeat (first | apply Kd.R_alloc | apply Kd.R_drewN | apply Kd.R_drew)); exact Kd.R_mono HO_9.out (fun _ hk => trivial)⟩, ⟨by repeat (first | (with_reducible first | exact HB.out | apply below_alloc | apply pw_below_drewN | apply below_drew1 | refine below_set ?_ GE145.out) | exact HB.out)⟩⟩
                    · rw [if_neg c21] at H
                      have c21b0 : ((rd_T43 t141 x11_1).f3) = false := by simpa using c21
                      clear c21
                      have H' := Aside0.mk H
                      clear H
                      have hcz27_0 : wc.cell? ⟨gb145, 0, none⟩ = some (.string ((rd_T43 t141 x11_1).f0)) := (blk_cell BK145.out 0).trans rfl
                      have hcz27_1 : wc.cell? ⟨gb145, 1, none⟩ = some (.int .i32 ((rd_T43 t141 x11_1).f1)) := (blk_cell BK145.out 1).trans rfl
                      have hcz27_2 : wc.cell? ⟨gb145, 2, none⟩ = some (.int .i32 ((rd_T43 t141 x11_1).f2)) := (blk_cell BK145.out 2).trans rfl
                      have hcz27_3 : wc.cell? ⟨gb145, 3, none⟩ = some (.bool ((rd_T43 t141 x11_1).f3)) := (blk_cell BK145.out 3).trans rfl
                      have hfz27_0 := blk_frozen BK145.out 0
                      have hfz27_1 := blk_frozen BK145.out 1
                      have hfz27_2 := blk_frozen BK145.out 2
                      have hfz27_3 := blk_frozen BK145.out 3
                      go_wp2
                      go_roundg kj9
                      case measure => have := HK1.out; have := HJ9.out; omega
                      case rel => exact ⟨(x4_1), (x5_1), (wrap64 (x11_1 + 1)), (by first | rfl | (simp; done) | (simp [*]; done)), (by first | rfl | (simp; done) | (simp [*]; done)), H', ⟨by have := HK1.out; have := HJ9.out; omega⟩, ⟨by (with_reducible repeat (first | apply Kd.R_alloc | apply Kd.R_drewN | apply Kd.R_drew)); exact HO_5.out⟩, ⟨by (with_reducible repeat (first | apply Kd.R_alloc | apply Kd.R_drewN | apply Kd.R_drew)); exact Kd.R_mono HO_9.out (fun _ hk => trivial)⟩, ⟨by repeat (first | (with_reducible first | exact HB.out | apply below_alloc | apply pw_below_drewN | apply below_drew1 | refine below_set ?_ GE145.out) | exact HB.out)⟩⟩
            · replace c9 := Bool.eq_false_iff.mpr c9
              subst c9
              have H1 : (entity_Longest.l0 k1 a0 x4_1 x5_1 t141 (t141.length : Int) (wrap64 (x11_1 + 1))) = some (r1, r2) := by rw [if_neg (show ¬ (false = true) by decide)] at H; exact H
              clear H
              have H := H1
              clear H1
              have H' := Aside0.mk H
              clear H
              have p144 : 0 ≤ (x11_1 : Int) := of_decide_eq_true (by first | (with_reducible assumption) | assumption)
              have q144 : x11_1 < (t141.length : Int) := of_decide_eq_true (by first | (with_reducible assumption) | assumption)
              obtain ⟨ad144, e144, hx144_0, hx144_1, hx144_2, hx144_3⟩ := at_T43 (Kd.R_reads' HO_9.out).2.2 x11_1 p144 q144
              cases e144
              replace p144 := eq_true p144
              replace q144 := eq_true q144
              go_wp2_with (first | ((with_reducible refine gate_dst (N := 7) rfl ?_); refine box_event ?hg (N := 7) ?hd (cs := #[.string (⟨#[]⟩ : ByteArray), .int .i32 0, .int .i32 0, .bool false]) (t := 43) ?hr ?_; (case hd => rfl); (case hg => rfl); (case hr => first | (go_simp; done) | (go_simp; rfl)); intro gb145 hg w28 hbox hb; have n0_ := Aside0.mk (Kd.R_below (by (with_reducible repeat (first | apply Kd.R_alloc | apply Kd.R_drewN | apply Kd.R_drew)); exact HO_5.out) hb); have n1_ := Aside0.mk (Kd.R_below (Kd.R_elderB (by (with_reducible repeat (first | apply Kd.R_alloc | apply Kd.R_drewN | apply Kd.R_drew)); exact HO_9.out) gb145 (Nat.le_of_eq hg.symm)) hb); have n2_ := Aside0.mk (below_step (by repeat (first | (with_reducible first | exact HB.out | apply below_alloc | apply pw_below_drewN | apply below_drew1) | exact HB.out)) hb); have n3_ := Aside0.mk (hbox); have n4_ := Aside0.mk ((by rw [hg]; exact (below_size (by repeat (first | (with_reducible first | exact HB.out | apply below_alloc | apply pw_below_drewN | apply below_drew1) | exact HB.out))) : w.heap.size ≤ gb145)); have n5_ := Aside0.mk ((by rw [hg]; exact (below_size (by repeat (first | (with_reducible first | exact HB.out | apply below_alloc | apply pw_below_drewN | apply below_drew1) | exact HB.out))) : w.heap.size ≤ gb145)); clear HO_5; clear HO_9; clear HB; have HO_5 := n0_; have HO_9 := n1_; have HB := n2_; have BK145 := n3_; have GW145 := n4_; have GE145 := n5_; clear n0_ n1_ n2_ n3_ n4_ n5_; clear hb hbox hg; have hcz29_0 : w28.cell? ⟨gb145, 0, none⟩ = some (.string (⟨#[]⟩ : ByteArray)) := (blk_cell BK145.out 0).trans rfl; have hcz29_1 : w28.cell? ⟨gb145, 1, none⟩ = some (.int .i32 0) := (blk_cell BK145.out 1).trans rfl; have hcz29_2 : w28.cell? ⟨gb145, 2, none⟩ = some (.int .i32 0) := (blk_cell BK145.out 2).trans rfl; have hcz29_3 : w28.cell? ⟨gb145, 3, none⟩ = some (.bool false) := (blk_cell BK145.out 3).trans rfl; have hfz29_0 := blk_frozen BK145.out 0; have hfz29_1 := blk_frozen BK145.out 1; have hfz29_2 := blk_frozen BK145.out 2; have hfz29_3 := blk_frozen BK145.out 3) | ((with_reducible refine gate_callee (f := 22) rfl ?_); refine goesL_ (some 18) rfl rfl Try.func22 (by kernel_rfl) rfl #[.string a0, .string ((rd_T43 t141 x11_1).f0)] rfl (by (try simp only [List.map_toArray, List.map_cons, List.map_nil]); first | done | rfl | (simp only [List.length_drop, List.length_take]; rfl)) ?_; (with_reducible refine (strings_HasPrefix.calls a0 ((rd_T43 t141 x11_1).f0) false _ A8.out).mono ?_); rintro e w' ⟨rfl, ⟨nd, rfl⟩⟩; refine ⟨_, rfl, ?_⟩))
              go_roundg k1
              case measure => have := HK1.out; omega
              case rel => exact ⟨(x4_1), (x5_1), (wrap64 (x11_1 + 1)), (by first | rfl | (simp; done) | (simp [*]; done)), (by first | rfl | (simp; done) | (simp [*]; done)), H', ⟨by have := HK1.out; omega⟩, ⟨by (with_reducible repeat (first | apply Kd.R_alloc | apply Kd.R_drewN | apply Kd.R_drew)); exact Kd.R_mono (Kd.R_far (p := ⟨gb145, 3, none⟩) (Kd.R_far (p := ⟨gb145, 2, none⟩) (Kd.R_far (p := ⟨gb145, 1, none⟩) (Kd.R_far (p := ⟨gb145, 0, none⟩) (Kd.R_types HO_5.out BK145.out (by decide)) (fun _ hk => hk.2) (.string ((rd_T43 t141 x11_1).f0))) (fun _ hk => hk.2) (.int .i32 ((rd_T43 t141 x11_1).f1))) (fun _ hk => hk.2) (.int .i32 ((rd_T43 t141 x11_1).f2))) (fun _ hk => hk.2) (.bool ((rd_T43 t141 x11_1).f3))) (fun _ hk => trivial)⟩, ⟨by (with_reducible repeat (first | apply Kd.R_alloc | apply Kd.R_drewN | apply Kd.R_drew)); exact Kd.R_mono (Kd.R_far (p := ⟨gb145, 3, none⟩) (Kd.R_far (p := ⟨gb145, 2, none⟩) (Kd.R_far (p := ⟨gb145, 1, none⟩) (Kd.R_far (p := ⟨gb145, 0, none⟩) (Kd.R_mono HO_9.out (fun k_ hk => (⟨hk, hk.2⟩ : _ ∧ k_ ≠ gb145))) (fun _ hk => hk.2) (.string ((rd_T43 t141 x11_1).f0))) (fun _ hk => hk.2) (.int .i32 ((rd_T43 t141 x11_1).f1))) (fun _ hk => hk.2) (.int .i32 ((rd_T43 t141 x11_1).f2))) (fun _ hk => hk.2) (.bool ((rd_T43 t141 x11_1).f3))) (fun _ hk => trivial)⟩, ⟨by repeat (first | (with_reducible first | exact HB.out | apply below_alloc | apply pw_below_drewN | apply below_drew1 | refine below_set ?_ GE145.out) | exact HB.out)⟩⟩
          · rw [if_neg c7] at H
            exact absurd H (by simp)
        · rw [if_neg c6] at H
          exact absurd H (by simp)
      · rw [if_neg c5] at H
        have c5b0 : decide (x11_1 < (t141.length : Int)) = false := decide_eq_false c5
        clear c5
        simp only [Option.some.injEq, Prod.mk.injEq] at H
        obtain ⟨rfl, rfl⟩ := H
        go_wp2
        go_ret2
        exact ⟨_, by first | rfl | (simp [errW_none, errW_some] <;> rfl) | (simp [*, errW_none, errW_some] <;> rfl), by (with_reducible repeat (first | apply Kd.R_alloc | apply Kd.R_drewN | apply Kd.R_drew)); exact HO_5.out, by repeat (first | (with_reducible first | exact HB.out | apply below_alloc | apply pw_below_drewN | apply below_drew1) | exact HB.out)⟩

end Go.Proofs.Ytkinpihjjelcpaa.PE
