/- The walk of the law EntityBack. -/
import Derived.Test.YtkinpihjjelcpaaPLawC
import Derived.Test.YtkinpihjjelcpaaPEf7
import Derived.Test.YtkinpihjjelcpaaPEf11
import Derived.Test.YtkinpihjjelcpaaPEf14
set_option linter.unusedSimpArgs false
set_option linter.unusedVariables false
namespace Go.Proofs.Ytkinpihjjelcpaa.PE
open Go.RowKit Go.Proofs.YtkinpihjjelcpaaW.PrintWords Go.Proofs.YtkinpihjjelcpaaW.PrintLast Go.Proofs.YtkinpihjjelcpaaW.PrintMore
open Law
namespace Back
theorem same_big (a : List Int) (hl : a.length ≤ 4611686018427387904) : ∀ (r : List Int) (i k : Nat), a.drop i = r → r.length < k → sieveref01_Same.l0 k a a (a.length : Int) (i : Int) = some true
  | [], i, k + 1, ha, hk => by
    have hi : a.length ≤ i := by
      have := congrArg List.length ha
      simp at this
      omega
    simp only [sieveref01_Same.l0]
    rw [if_neg (by omega)]
  | x :: ra, i, k + 1, ha, hk => by
    have h1 := congrArg List.length ha
    simp at h1
    have hi : i < a.length := by omega
    have ha' : a.drop (i + 1) = ra := by
      rw [List.drop_eq_getElem_cons hi] at ha
      injection ha with p q
    have ih := same_big a hl ra (i + 1) k ha' (by rw [List.length_cons] at hk; omega)
    simp only [sieveref01_Same.l0]
    rw [if_pos (by omega), if_pos (by omega), if_pos (by omega), if_pos (by omega), IntWalk.wrap64_in _ (by omega)]
    rw [if_pos trivial]
    exact ih
theorem same_self (a : List Int) (hl : a.length ≤ 4611686018427387904) : sieveref01_Same.f (a.length + 1) a a = some true := by
  unfold sieveref01_Same.f
  rw [if_pos rfl]
  exact same_big a hl a 0 (a.length + 1) rfl (by omega)
def nameOf (l : List Int) : ByteArray := (candI l).foldl pick none_
theorem bang_size (b : ByteArray) : (b.toList != []) = !(b.size == 0) := by
  rw [Bool.eq_iff_iff, bne_iff_ne, ne_eq, size_toList]; simp

set_option maxHeartbeats 4000000 in
set_option maxRecDepth 100000 in
theorem walk (A0 : Option Addr) (c0 : Nat) (l0 : List Int) (w : World) (hr0 : Kd.C (Kd.int .i32) w A0 l0.length l0) (hc0 : l0.length ≤ c0) (hl0 : l0.length * 4 ≤ 140737488351232) :
    Calls Try.prog 5 #[.slice A0 l0.length c0] w fun e w' => e = .returned (.bool true) ∧ Below w.heap.size w w' := by
  have HR0 := Lib.hid hr0
  have HC0 := Lib.hid hc0
  clear hr0 hc0
  have HO0 : Hid ((Kd.int .i32).R 21 (w.alloc (.cells #[] 21)) w.heap.size (fun _ => True) (.slice (some ⟨w.heap.size, 0, none⟩) 0 0) []) := Lib.hid (Kd.R_of_own (World.ownsRow_made w #[] 0 (Nat.le_refl _) (by decide) rfl) (fun _ _ => trivial))
  have HB0 : Hid (Below w.heap.size w (w.alloc (.cells #[] 21))) := Lib.hid ((Below.refl _ _).alloc (Nat.le_refl _) _)
  go_enter Try.func5, Try.ntmps5
  go_wp2_with ((with_reducible refine gate_builtin (b := .append) (xs := #[.tmp 10, .tmp 11]) rfl ?_); at_builtin; refine Kd.R_append_row (w0 := w) (Value.int .i32) (0 : Int) w.heap.size rfl (.tmp 10) (.tmp 11) 22 21 (.int .i32 0) 4 rfl Try.underlying22 info21 rfl (by decide) (.slice (some ⟨w.heap.size, 0, none⟩) 0 0) [] l0 A0 l0.length c0 (fun _ => True) rfl rfl (fun _ _ => trivial) HO0.out (Kd.C_below HR0.out HB0.out) HB0.out HB0.out.size (by simp; omega) ?_; intro v1 w1 hR1 hB1 _ _; have HR1 := Lib.hid hR1; have HB1 := Lib.hid hB1; clear hR1 hB1 HO0 HB0)
  obtain ⟨A1, c1, e1⟩ := Kd.R_slice HR1.out
  rw [List.nil_append] at HR1 e1
  subst e1
  have hlen : l0.length ≤ 35184372087808 := by omega
  have hls := same_self l0 (by omega)
  have HSame := Lib.hid hls
  have HF := Lib.hid (back l0)
  obtain ⟨n, hn⟩ : ∃ n, n = nameOf l0 := ⟨_, rfl⟩
  have HN := Lib.hid (name_eq l0 1000 (by omega))
  have HW := Lib.hid (best_eq l0)
  change Hid (find (nameOf l0).data.toList tab = if (nameOf l0).size = 0 then ([], false) else (l0, true)) at HF
  change Hid (entity_Name.f 1000 l0 = some (nameOf l0, (nameOf l0).toList != [])) at HN
  change Hid (RefName.best l0 Tab.sorted = nameOf l0) at HW
  rw [← hn] at HF HN HW
  clear hls hn
  obtain ⟨q, hq⟩ : ∃ q, q = !(n.size == 0) := ⟨_, rfl⟩
  have HQ := Lib.hid hq
  rw [bang_size, ← hq] at HN
  clear hq
  refine (entity_Name.calls 1000 A1 c1 l0 n q _ (Kd.R_reads' HR1.out).2.2 (Kd.R_reads' HR1.out).2.1 HN.out).mono ?_
  rintro e w2 ⟨rfl, hb2⟩
  have HB2 := Lib.hid (below_step HB1.out hb2)
  have HR2 := Lib.hid (Kd.R_below HR1.out hb2)
  clear hb2 HB1 HR1 HN
  go_wp2_with fail
  refine (sieveref05_Name.calls A0 c0 l0 _ (Kd.C_below HR0.out HB2.out) (by omega)).mono ?_
  rintro e w3 ⟨rfl, hb3⟩
  rw [HW.out, ← HQ.out]
  have HB3 := Lib.hid (below_step HB2.out hb3)
  have HR3 := Lib.hid (Kd.R_below HR2.out hb3)
  clear hb3 HB2 HR2 HW
  go_wp2_with fail
  refine (sieveref01_Same.calls _ A1 c1 l0 A0 c0 l0 true _ (Kd.R_reads' HR3.out).2.2 (Kd.R_reads' HR3.out).2.1 (Kd.C_below HR0.out HB3.out) HC0.out HSame.out).mono ?_
  rintro e w4 ⟨rfl, hd4⟩
  obtain ⟨m4, rfl⟩ := hd4
  go_wp2_with fail
  have HFf := Lib.hid (find_eq n 1000 (by omega))
  have HL := Lib.hid (lives_eq 1000 (by omega))
  by_cases h0 : n.size = 0
  · have hq : q = false := by rw [HQ.out, h0]; rfl
    subst hq
    have HF0 : Hid (entity_Find.f 1000 n = some ([], false)) := Lib.hid (by rw [HFf.out, HF.out, if_pos h0])
    clear h0 HFf HF
    refine (entity_Find.calls 1000 n [] false _ HF0.out).mono ?_
    rintro e w5 ⟨v5, rfl, hr5, hb5⟩
    have HB5 := Lib.hid (below_step (pw_below_drewN HB3.out m4) hb5)
    clear hb5 hr5 HB3
    go_wp2_with fail
    refine (sievelaw05_lives.calls 1000 true _ HL.out).mono ?_
    rintro e w6 ⟨rfl, hb6⟩
    have HB6 := Lib.hid (below_step HB5.out hb6)
    clear hb6 HB5
    go_wp2_with fail
    go_ret
    exact ⟨rfl, HB6.out⟩
  · have hq : q = true := by rw [HQ.out]; simpa using h0
    subst hq
    have HF0 : Hid (entity_Find.f 1000 n = some (l0, true)) := Lib.hid (by rw [HFf.out, HF.out, if_neg h0])
    clear h0 HFf HF
    refine (entity_Find.calls 1000 n l0 true _ HF0.out).mono ?_
    rintro e w5 ⟨v5, rfl, hr5, hb5⟩
    have HB5 := Lib.hid (below_step (pw_below_drewN HB3.out m4) hb5)
    obtain ⟨A5, c5, rfl⟩ := Kd.R_slice hr5
    have HR5 := Lib.hid hr5
    clear hb5 hr5 HB3
    go_wp2_with fail
    refine (sieveref01_Same.calls _ A5 c5 l0 A0 c0 l0 true _ (Kd.R_reads' HR5.out).2.2 (Kd.R_reads' HR5.out).2.1 (Kd.C_below HR0.out HB5.out) HC0.out HSame.out).mono ?_
    rintro e w6 ⟨rfl, hd6⟩
    obtain ⟨m6, rfl⟩ := hd6
    go_wp2_with fail
    refine (sievelaw05_lives.calls 1000 true _ HL.out).mono ?_
    rintro e w7 ⟨rfl, hb7⟩
    have HB7 := Lib.hid (below_step (pw_below_drewN HB5.out m6) hb7)
    clear hb7 HB5
    go_wp2_with fail
    go_ret
    exact ⟨rfl, HB7.out⟩
end Back
end Go.Proofs.Ytkinpihjjelcpaa.PE
