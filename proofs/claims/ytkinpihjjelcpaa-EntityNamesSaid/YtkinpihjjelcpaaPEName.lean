/- The contract of the reference's Name: of the sorted table the shortest name with a semicolon that stands for the runes, of as short ones the first. -/
import Derived.Test.YtkinpihjjelcpaaPETabB
import Derived.WalkLawsBesides
import Derived.WalkSpells
set_option linter.unusedSimpArgs false
set_option linter.unusedVariables false
namespace Go.Proofs.Ytkinpihjjelcpaa.PE
open Go.RowKit Go.Proofs.YtkinpihjjelcpaaW.PrintWords Go.Proofs.YtkinpihjjelcpaaW.PrintLast Go.Proofs.YtkinpihjjelcpaaW.PrintMore
open Tab
namespace RefName
def last (n : ByteArray) : Nat := (n.data.toList.getLast?.getD 0).toNat
/-- What one row of the table does to the best name so far. -/
def step (l : List Int) (best : ByteArray) (z : ByteArray × List Int) : ByteArray :=
  if last z.1 = 59 ∧ z.2.length = l.length then (if l = z.2 ∧ (best.size = 0 ∨ z.1.size < best.size) then z.1 else best) else best
def best (l : List Int) (Z : List (ByteArray × List Int)) : ByteArray := Z.foldl (step l) ⟨#[]⟩
theorem names_ok : ∀ z, z ∈ sorted → 0 < z.1.size ∧ z.1.size ≤ 101 ∧ z.2.length ≤ 2 := by
  have h : sorted.all (fun z => decide (0 < z.1.size ∧ z.1.size ≤ 101 ∧ z.2.length ≤ 2)) = true := by decide +kernel
  intro z hz
  exact of_decide_eq_true (List.all_eq_true.1 h z hz)
theorem sorted_length : 0 < sorted.length ∧ sorted.length ≤ 1000 := by
  have h : decide (0 < sorted.length ∧ sorted.length ≤ 1000) = true := by decide +kernel
  exact of_decide_eq_true h
/-- What lies in memory behind Table, and stays. -/
structure Mem (w : World) (g2 c2 g3 c3 : Nat) (A0 : Option Addr) (l0 : List Int) (Z : List (ByteArray × List Int)) : Prop where
  name : ∀ (i : Nat) z, Z[i]? = some z → w.cell? ⟨g2, i, none⟩ = some (.string z.1)
  val : ∀ (i : Nat) z, Z[i]? = some z → ∃ A c, w.cell? ⟨g3, i, none⟩ = some (.slice A z.2.length c) ∧ Kd.C (Kd.int .i32) w A z.2.length z.2
  arg : Kd.C (Kd.int .i32) w A0 l0.length l0
theorem mem_of {Z : List (ByteArray × List Int)} {w w' : World} {ps : List (List Int × Value)} {g2 c2 g3 c3 : Nat} {A0 : Option Addr} {l0 : List Int} (hn : w'.ownsRow w.heap.size 9 1 (.slice (some ⟨g2, 0, none⟩) Z.length c2) Z.length (Z.map fun z => S z.1))
    (hv : w'.ownsRow w.heap.size 22 1 (.slice (some ⟨g3, 0, none⟩) Z.length c3) Z.length (ps.map fun p => p.2)) (hi : ∀ p, p ∈ ps → I w' w.heap.size p.2 p.1) (hp : ps.map (fun p => p.1) = Z.map (fun z => z.2)) (ha : Kd.C (Kd.int .i32) w A0 l0.length l0) (hb : Below w.heap.size w w') : Mem w' g2 c2 g3 c3 A0 l0 Z where
  name := fun i z hz => by
    have hlt := (List.getElem?_eq_some_iff.1 hz).1
    rw [hn.cellAt i (by omega)]
    simp [hz, S]
  val := fun i z hz => by
    have hlt := (List.getElem?_eq_some_iff.1 hz).1
    have hpl : ps.length = Z.length := by simpa using congrArg List.length hp
    have hpi : ps[i]? = some ps[i] := List.getElem?_eq_getElem (by omega)
    have he : ps[i].1 = z.2 := by
      have := congrArg (fun q : List (List Int) => q[i]?) hp
      simpa [hpi, hz] using this
    have hI := hi ps[i] (List.getElem_mem _)
    obtain ⟨A, c, e, _, hC⟩ := Kd.R_reads hI
    rw [he] at e hC
    refine ⟨A, c, ?_, hC⟩
    rw [hv.cellAt i (by omega), ← e]
    simp [hpi]
  arg := Kd.C_below ha hb
theorem last_at (n : ByteArray) (h : n.size - 1 < n.size) : (n[n.size - 1]'h).toNat = last n := by
  unfold last
  have e : n.data.toList.getLast? = some (n[n.size - 1]'h) := by
    rw [List.getLast?_eq_getElem?]
    rw [Array.length_toList]
    exact List.getElem?_eq_getElem _
  rw [e]; rfl
theorem take_up' {α : Type} {T : List α} {i : Nat} {x : α} (h : T[i]? = some x) : T.take (i + 1) = T.take i ++ [x] := by
  obtain ⟨hi, e⟩ := List.getElem?_eq_some_iff.1 h
  rw [List.take_succ_eq_append_getElem hi, e]
theorem best_up {l : List Int} {Z : List (ByteArray × List Int)} {i : Nat} {z : ByteArray × List Int} (h : Z[i]? = some z) : best l (Z.take (i + 1)) = step l (best l (Z.take i)) z := by
  rw [take_up' h]; simp [best]

theorem step_skip {l : List Int} {b : ByteArray} {z : ByteArray × List Int} (h : ¬ (last z.1 = 59 ∧ z.2.length = l.length)) : step l b z = b := if_neg h
theorem step_take {l : List Int} {b n : ByteArray} {x : List Int} (h1 : last n = 59) (h2 : x.length = l.length) (h3 : l = x) (h4 : b.size = 0 ∨ n.size < b.size) : step l b (n, x) = n := by
  unfold step
  rw [if_pos ⟨h1, h2⟩, if_pos ⟨h3, h4⟩]
theorem step_leave {l : List Int} {b n : ByteArray} {x : List Int} (h : ¬ (l = x ∧ (b.size = 0 ∨ n.size < b.size))) : step l b (n, x) = b := by
  unfold step
  by_cases h1 : last n = 59 ∧ x.length = l.length
  · rw [if_pos h1, if_neg h]
  · rw [if_neg h1]
theorem empty_iff (b : ByteArray) : b.toList.isEmpty = (b.size == 0) := by
  rw [ByteArray.toList_eq, Bool.eq_iff_iff, List.isEmpty_iff, beq_iff_eq, ← List.length_eq_zero_iff, Array.length_toList]
  rfl
theorem same_up {l x : List Int} {k : Nat} (h : k < l.length) (hx : k < x.length) : decide (l.take (k + 1) = x.take (k + 1)) = (decide (l.take k = x.take k) && (rd l (k : Int) == rd x (k : Int))) := by
  have e1 : rd l (k : Int) = l[k] := by simp [rd, h]
  have e2 : rd x (k : Int) = x[k] := by simp [rd, hx]
  rw [List.take_succ_eq_append_getElem h, List.take_succ_eq_append_getElem hx, e1, e2, Bool.eq_iff_iff]
  simp only [decide_eq_true_eq, Bool.and_eq_true, beq_iff_eq]
  constructor
  · intro hh
    have := List.append_inj hh (by simp; omega)
    exact ⟨this.1, by simpa using this.2⟩
  · rintro ⟨h1, h2⟩
    rw [h1, h2]

set_option maxHeartbeats 4000000 in
set_option maxRecDepth 100000 in
theorem walk (A0 : Option Addr) (c0 : Nat) (l0 : List Int) (w : World) (hr0 : Kd.C (Kd.int .i32) w A0 l0.length l0) (hl0 : l0.length ≤ 140737488351232) (Z : List (ByteArray × List Int)) (HZ : Hid (Z = sorted)) :
    Calls Try.prog 16 #[.slice A0 l0.length c0] w fun e w' => e = .returned (.tuple #[.string (best l0 Z), .bool (!((best l0 Z).size == 0))]) ∧ Below w.heap.size w w' := by
  have HR0 := Lib.hid hr0
  clear hr0
  go_enter Try.func16, Try.ntmps16
  go_wp2_with fail
  refine (sieveref05_Table.calls _).mono ?_
  rintro e w1 ⟨ps, v2, v3, rfl, hn, hv, hi, hp, hb⟩
  obtain ⟨g2, c2, rfl⟩ := own_succ (k := sorted.length - 1) (by have := sorted_length.1; rw [show sorted.length - 1 + 1 = sorted.length by omega]; exact hn)
  obtain ⟨g3, c3, rfl⟩ := own_succ (k := sorted.length - 1) (by have := sorted_length.1; rw [show sorted.length - 1 + 1 = sorted.length by omega]; exact hv)
  rw [show sorted.length - 1 + 1 = sorted.length by have := sorted_length.1; omega] at hn hv ⊢
  have HM := Lib.hid (mem_of hn hv hi hp HR0.out hb)
  have HB := Lib.hid hb
  have HNl : Hid (Z.length ≤ 1000) := Lib.hid (by rw [HZ.out]; exact sorted_length.2)
  have HNo : Hid (∀ z, z ∈ Z → 0 < z.1.size ∧ z.1.size ≤ 101 ∧ z.2.length ≤ 2) := Lib.hid (by rw [HZ.out]; exact names_ok)
  rw [← HZ.out] at HM ⊢
  clear hn hv hi hp hb HR0 HZ
  have hNl := HNl.out
  go_wp2_with fail
  go_loopw [6, 17] (fun v6 v17 wr => ∃ (i m : Nat), v17 = .int .i64 i ∧ i ≤ Z.length ∧ v6 = .string (best l0 (Z.take i)) ∧ wr = w1.drewN m) (fun _ v17 _ => Z.length - (intOf v17).toNat)
  case atStart => exact ⟨0, 0, rfl, Nat.zero_le _, rfl, rfl⟩
  case round =>
    obtain ⟨i, m, rfl, hi, rfl, rfl⟩ := hrel
    by_cases hlt : i < Z.length
    · obtain ⟨z, hz⟩ : ∃ z, Z[i]? = some z := ⟨_, List.getElem?_eq_getElem hlt⟩
      obtain ⟨n, x⟩ := z
      obtain ⟨hn1, hn2, hx2⟩ := HNo.out _ (List.mem_of_getElem? hz)
      dsimp only at hn1 hn2 hx2
      have cn := HM.out.name i _ hz
      obtain ⟨A, c, cv, hC⟩ := HM.out.val i _ hz
      dsimp only at cn cv hC
      have HU := Lib.hid (best_up (l := l0) hz)
      have HC := Lib.hid hC
      clear hC hz
      obtain ⟨b0, hb0⟩ : ∃ b0, b0 = best l0 (Z.take i) := ⟨_, rfl⟩
      rw [← hb0] at HU ⊢
      clear hb0
      have HLa := Lib.hid (last_at n (by omega))
      by_cases h59 : last n = 59
      · have t59 : (((n[n.size - 1]'(by omega)).toNat : Int) != 59) = false := by rw [HLa.out, h59]; rfl
        by_cases hxl : x.length = l0.length
        · have tl : ((x.length : Int) != (l0.length : Int)) = false := by rw [hxl]; simp
          go_wp2_with fail
          go_loopw [9, 40] (fun v9 v40 wr => ∃ (k m' : Nat), v40 = .int .i64 k ∧ k ≤ l0.length ∧ v9 = .bool (decide (l0.take k = x.take k)) ∧ wr = w1.drewN m') (fun _ v40 _ => l0.length - (intOf v40).toNat)
          case atStart => exact ⟨0, m, rfl, Nat.zero_le _, by simp, rfl⟩
          case round =>
            obtain ⟨k, m', rfl, hk, rfl, rfl⟩ := hrel
            by_cases hkl : k < l0.length
            · obtain ⟨ad, ea, ca⟩ := Kd.at_int HM.out.arg (k : Int) (by omega) (by omega)
              obtain ⟨ad', ea', ca'⟩ := Kd.at_int HC.out (k : Int) (by omega) (by omega)
              subst ea ea'
              rw [Int.toNat_natCast] at ca ca'
              have HT := Lib.hid (same_up (l := l0) (x := x) hkl (by omega))
              by_cases hs : l0.take k = x.take k
              · rw [decide_eq_true hs] at HT ⊢
                clear hs
                by_cases he : rd l0 (k : Int) = rd x (k : Int)
                · have te : (rd l0 (k : Int) == rd x (k : Int)) = true := by rw [he]; simp
                  have HF := Lib.hid te
                  clear he
                  go_wp2_with fail
                  go_quiet (fail)
                  go_wp2_with fail
                  exact ⟨⟨k + 1, _, by go_num, by omega, by rw [HT.out, HF.out]; rfl, rfl⟩, by simp [intOf]; omega⟩
                · have te : (rd l0 (k : Int) == rd x (k : Int)) = false := by simpa using he
                  have HF := Lib.hid te
                  clear he
                  go_wp2_with fail
                  go_quiet (fail)
                  go_wp2_with fail
                  exact ⟨⟨k + 1, _, by go_num, by omega, by rw [HT.out, HF.out]; rfl, rfl⟩, by simp [intOf]; omega⟩
              · rw [decide_eq_false hs] at HT ⊢
                clear hs ca ca'
                go_wp2_with fail
                go_quiet (fail)
                go_wp2_with fail
                exact ⟨⟨k + 1, _, by go_num, by omega, by rw [HT.out]; rfl, rfl⟩, by simp [intOf]; omega⟩
            · obtain rfl : k = l0.length := by omega
              have hd : (decide (l0.take l0.length = x.take l0.length)) = decide (l0 = x) := by
                rw [List.take_length, ← hxl, List.take_length]
              rw [hd]
              clear hd
              by_cases hs : l0 = x
              · rw [decide_eq_true hs]
                have Hs := Lib.hid hs
                clear hs
                by_cases h0 : b0.size = 0
                · have te : b0.toList.isEmpty = true := by rw [empty_iff]; simpa using h0
                  have H0 := Lib.hid h0
                  clear h0
                  go_wp2_with fail
                  exact ⟨⟨i + 1, m', by go_num, by omega, by rw [HU.out, step_take h59 hxl Hs.out (.inl H0.out)], rfl⟩, by simp [intOf]; omega⟩
                · have te : b0.toList.isEmpty = false := by rw [empty_iff]; simpa using h0
                  have H0 := Lib.hid h0
                  clear h0
                  by_cases hlt2 : n.size < b0.size
                  · have tl2 : decide ((n.size : Int) < (b0.size : Int)) = true := decide_eq_true (by omega)
                    go_wp2_with fail
                    exact ⟨⟨i + 1, m', by go_num, by omega, by rw [HU.out, step_take h59 hxl Hs.out (.inr hlt2)], rfl⟩, by simp [intOf]; omega⟩
                  · have tl2 : decide ((n.size : Int) < (b0.size : Int)) = false := decide_eq_false (by omega)
                    go_wp2_with fail
                    exact ⟨⟨i + 1, m', by go_num, by omega, by rw [HU.out, step_leave (fun h => h.2.elim H0.out hlt2)], rfl⟩, by simp [intOf]; omega⟩
              · rw [decide_eq_false hs]
                have Hs := Lib.hid hs
                clear hs
                go_wp2_with fail
                exact ⟨⟨i + 1, m', by go_num, by omega, by rw [HU.out, step_leave (fun h => Hs.out h.1)], rfl⟩, by simp [intOf]; omega⟩
        · have tl : ((x.length : Int) != (l0.length : Int)) = true := by rw [bne_iff_ne]; omega
          go_wp2_with fail
          exact ⟨⟨i + 1, m, by go_num, by omega, by rw [HU.out, step_skip (by simp [hxl])], rfl⟩, by simp [intOf]; omega⟩
      · have t59 : (((n[n.size - 1]'(by omega)).toNat : Int) != 59) = true := by rw [HLa.out, bne_iff_ne]; omega
        go_wp2_with fail
        exact ⟨⟨i + 1, m, by go_num, by omega, by rw [HU.out, step_skip (by simp [h59])], rfl⟩, by simp [intOf]; omega⟩
    · obtain rfl : i = Z.length := by omega
      rw [List.take_length]
      obtain ⟨b0, hb0⟩ : ∃ b0, b0 = best l0 Z := ⟨_, rfl⟩
      have HE := Lib.hid hb0
      rw [← hb0]
      clear hb0
      have He : Hid ((!b0.toList.isEmpty) = !(b0.size == 0)) := Lib.hid (by rw [empty_iff])
      go_wp2_with fail
      go_ret2
      refine ⟨?_, pw_below_drewN HB.out _⟩
      rw [← HE.out, ← He.out]
      rfl
end RefName
open RefName in
theorem sieveref05_Name.calls (A0 : Option Addr) (c0 : Nat) (l0 : List Int) (w : World) (hr0 : Kd.C (Kd.int .i32) w A0 l0.length l0) (hl0 : l0.length ≤ 140737488351232) :
    Calls Try.prog 16 #[.slice A0 l0.length c0] w fun e w' => e = .returned (.tuple #[.string (best l0 sorted), .bool (!((best l0 sorted).size == 0))]) ∧ Below w.heap.size w w' :=
  walk A0 c0 l0 w hr0 hl0 sorted (Lib.hid rfl)
end Go.Proofs.Ytkinpihjjelcpaa.PE
