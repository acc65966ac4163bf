/- EntityNames: the contract of tree. -/
import Derived.Test.YtkinpihjjelcpaaPN1
import Derived.Test.YtkinpihjjelcpaaPETabB
namespace Go.Proofs.Ytkinpihjjelcpaa.PE
open Go.RowKit Go.Proofs.YtkinpihjjelcpaaW.PrintWords Go.Proofs.YtkinpihjjelcpaaW.PrintLast Go.Proofs.YtkinpihjjelcpaaW.PrintMore
set_option linter.unusedSimpArgs false
set_option linter.unusedVariables false
namespace Tr
def putOf (x : S43) : List ByteArray := if x.f3 then [x.f0 ++ ⟨#[59]⟩, x.f0] else [x.f0 ++ ⟨#[59]⟩]
/-- The paths there are behind the names L. -/
def PfL (L : List ByteArray) (q : List Nat) : Bool := q.isEmpty || L.any (fun s => q.isPrefixOf (bytes s))
def NmL (L : List ByteArray) (q : List Nat) : Bool := L.any (fun s => q == bytes s)
structure Tst (w : World) (T : List S43) (v : Value) (bt b0 K : Nat) (L : List ByteArray) (wr : World) : Prop where
  tr : ∃ Pf Nm blk mpb, Trie wr w.heap.size K Pf Nm blk mpb ∧ (∀ q, Pf q = PfL L q) ∧ (∀ q, Nm q = NmL L q) ∧ blk [] = b0
  box : wr.heap[bt]? = some (.cells #[.pointer (some ⟨b0, 0, none⟩)] 48 (0, 0))
  row : Kd.R k43 43 wr w.heap.size (fun _ => True) v T
  fr : Fr w.heap.size w wr
theorem R_fr {n₀ : Nat} {w w' : World} {v : Value} {T : List S43} {base : Nat} (h : Kd.R k43 43 w base (fun _ => True) v T) (hf : Fr n₀ w w') : Kd.R k43 43 w' base (fun _ => True) v T := by
  refine Kd.R_mono (Kd.R_move (Kd.R_bound h) (fun k hk => ?_)) (fun _ _ => trivial)
  obtain ⟨_, _, _, q, hq, c, hc⟩ := hk
  rw [hc]
  refine hf.same k _ hc (.inr ?_)
  have hE : ∀ q, q ∈ 43 :: k43.E → q ≠ 52 := by decide
  exact hE q hq
variable {w wr w' : World} {T : List S43} {v : Value} {bt b0 K : Nat} {L : List ByteArray}
theorem Tst.alloc (h : Tst w T v bt b0 K L wr) (o : Obj) : Tst w T v bt b0 K L (wr.alloc o) := by
  have hf : Fr w.heap.size wr (wr.alloc o) := Fr.grown (row := none) (World.grownBy_alloc wr o none) (fun r e => by cases e)
  obtain ⟨Pf, Nm, blk, mpb, hT, h1, h2, h3⟩ := h.tr
  exact ⟨⟨Pf, Nm, blk, mpb, hT.alloc o, h1, h2, h3⟩, hf.same _ _ h.box (.inr (by simp [Else])), R_fr h.row hf, h.fr.trans hf⟩
theorem Tst.kmono (h : Tst w T v bt b0 K L wr) {K' : Nat} (hk : K ≤ K') : Tst w T v bt b0 K' L wr := by
  obtain ⟨Pf, Nm, blk, mpb, hT, h1, h2, h3⟩ := h.tr
  exact ⟨⟨Pf, Nm, blk, mpb, hT.kmono hk, h1, h2, h3⟩, h.box, h.row, h.fr⟩
theorem Tst.put (h : Tst w T v bt b0 K L wr) (s : ByteArray) (hs : s.size ≤ 1000) (hK : K ≤ 10000000) :
    Calls Try.prog 30 #[.string s, .pointer (some ⟨bt, 0, none⟩)] wr fun e w' => (∃ v, e = .returned v) ∧ Tst w T v bt b0 (K + s.size) (L ++ [s]) w' ∧ Fr w.heap.size wr w' := by
  obtain ⟨Pf, Nm, blk, mpb, hT, h1, h2, h3⟩ := h.tr
  have H0 : PutIn wr w.heap.size K Pf Nm b0 s 0 (some b0) wr := ⟨⟨Pf, blk, mpb, hT, fun q => by
    unfold PfAt
    cases q with
    | nil => simp [hT.root]
    | cons a q => simp, h3, by simp [h3]⟩, Fr.refl _ _⟩
  refine (put_walk s bt b0 wr w.heap.size K Pf Nm (Lib.hid H0) h.box hs hK h.fr.size).mono ?_
  rintro e w' ⟨he, Pf', Nm', blk', mpb', hT', hP, hN, hb, hF⟩
  refine ⟨he, ⟨⟨Pf', Nm', blk', mpb', hT', fun q => ?_, fun q => ?_, hb⟩, hF.same _ _ h.box (.inr (by simp [Else])), R_fr h.row hF, h.fr.trans hF⟩, hF⟩
  · rw [hP]
    unfold PfAt
    rw [h1, List.take_of_length_le (by rw [bytes_length]; exact Nat.le_refl _)]
    simp [PfL, Bool.or_assoc]
  · rw [hN, h2]
    simp [NmL]
def TreePost (w : World) (L : List ByteArray) (e : Ending) (w' : World) : Prop :=
  ∃ K Pf Nm blk mpb, e = .returned (.pointer (some ⟨blk [], 0, none⟩)) ∧ Trie w' w.heap.size K Pf Nm blk mpb ∧ (∀ q, Pf q = PfL L q) ∧ (∀ q, Nm q = NmL L q) ∧ Below w.heap.size w w'
theorem box_fr {n₀ g : Nat} {x : S43} (h : Tab.Box wr g x) (hf : Fr n₀ wr w') : Tab.Box w' g x := hf.same _ _ h (.inr (by simp [Else]))
theorem put_bare {i : Nat} {x : S43} (hx : T[i]? = some x) (hb : x.f3 = true) : (T.take i).flatMap putOf ++ [x.f0 ++ ⟨#[59]⟩] ++ [x.f0] = (T.take (i + 1)).flatMap putOf := by
  rw [Tab.take_up hx, List.flatMap_append]
  simp [putOf, hb]
theorem put_semi {i : Nat} {x : S43} (hx : T[i]? = some x) (hb : x.f3 = false) : (T.take i).flatMap putOf ++ [x.f0 ++ ⟨#[59]⟩] = (T.take (i + 1)).flatMap putOf := by
  rw [Tab.take_up hx, List.flatMap_append]
  simp [putOf, hb]

theorem Fr.of_below {n₀ : Nat} (h : Below wr.heap.size wr w') : Fr n₀ wr w' :=
  ⟨h.os, h.tape, h.output, h.size, fun i o hi _ => (h.block i (Array.getElem?_eq_some_iff.1 hi).1).trans hi⟩
theorem Tst.start (w : World) {w1 : World} (hrow : Kd.R k43 43 w1 w.heap.size (fun _ => True) v T)
    (hb : Below (((w.alloc (.map #[] 0)).alloc (.cells #[.map (some w.heap.size), .bool false] 52)).alloc (.cells #[.pointer (some ⟨w.heap.size + 1, 0, none⟩)] 48)).heap.size (((w.alloc (.map #[] 0)).alloc (.cells #[.map (some w.heap.size), .bool false] 52)).alloc (.cells #[.pointer (some ⟨w.heap.size + 1, 0, none⟩)] 48)) w1) :
    Tst w T v (w.heap.size + 1 + 1) (w.heap.size + 1) 0 [] w1 := by
  have hf := Fr.of_below (n₀ := w.heap.size) hb
  have hT := ((Trie.made (n₀ := w.heap.size) w (Nat.le_refl _)).alloc (.cells #[.pointer (some ⟨w.heap.size + 1, 0, none⟩)] 48)).same (fun i o hi _ => (hb.block i (Array.getElem?_eq_some_iff.1 hi).1).trans hi)
  have hbox := heap_alloc_new ((w.alloc (.map #[] 0)).alloc (.cells #[.map (some w.heap.size), .bool false] 52)) (.cells #[.pointer (some ⟨w.heap.size + 1, 0, none⟩)] 48)
  rw [World.size_alloc, World.size_alloc] at hbox
  refine ⟨⟨_, _, _, _, hT, fun q => by simp [PfL], fun q => by simp [NmL], rfl⟩, hf.same _ _ hbox (.inr (by simp [Else])), hrow, ?_⟩
  refine Fr.trans (Fr.grown (row := none) (laid_grown w) (fun r e => by cases e)) (Fr.trans (Fr.grown (row := none) (World.grownBy_alloc _ _ none) (fun r e => by cases e)) hf)

set_option maxHeartbeats 4000000 in
set_option maxRecDepth 100000 in
theorem tree_walk (w : World) (T : List S43) (HT : Hid (T = tab)) (HTl : Hid (T.length ≤ 1000)) (HTs : Hid (∀ x, x ∈ T → x.f0.size ≤ 100)) : Calls Try.prog 27 #[] w fun e w' => TreePost w (T.flatMap putOf) e w' := by
  have hmm := @run_makeMap Try.prog
  go_enter Try.func27, Try.ntmps27
  go_wp2_with fail
  refine (api_Entities.calls T _ (by rw [HT.out]; rfl)).mono ?_
  rintro e w1 ⟨v, rfl, hrow, hb⟩
  obtain ⟨A, c, rfl⟩ := Kd.R_slice hrow
  have HS := Lib.hid (Tst.start w (Kd.R_lower hrow (by simp; omega)) hb)
  have hTl := HTl.out
  clear hrow hb
  obtain ⟨bt, hbt⟩ : ∃ bt, bt = w.heap.size + 1 + 1 := ⟨_, rfl⟩
  obtain ⟨b0, hb0⟩ : ∃ b0, b0 = w.heap.size + 1 := ⟨_, rfl⟩
  obtain ⟨m0, hm0⟩ : ∃ m0, m0 = w.heap.size := ⟨_, rfl⟩
  rw [← hbt, ← hb0] at HS ⊢
  clear hbt hb0 hmm
  go_wp2_with fail
  go_loopw [11] (fun v11 wr => ∃ (i : Nat), v11 = .int .i64 i ∧ i ≤ T.length ∧ Hid (Tst w T (.slice A T.length c) bt b0 (i * 300) ((T.take i).flatMap putOf) wr)) (fun v11 _ => T.length - (intOf v11).toNat)
  case atStart => exact ⟨0, rfl, Nat.zero_le _, Lib.hid (by simpa using HS.out)⟩
  case round =>
    clear HS
    obtain ⟨i, rfl, hi, HS⟩ := hrel
    by_cases hlt : i < T.length
    · obtain ⟨x, hx⟩ : ∃ x, T[i]? = some x := ⟨_, List.getElem?_eq_getElem hlt⟩
      have hxs : x.f0.size ≤ 100 := HTs.out x (List.mem_of_getElem? hx)
      have hxs' : (x.f0 ++ ⟨#[59]⟩).size ≤ 101 := by rw [ByteArray.size_append]; have : (ByteArray.mk #[59]).size = 1 := rfl; omega
      obtain ⟨ad, e0, hc0, hc1, hc2, hc3⟩ := at_T43 (Kd.R_reads' HS.out.row).2.2 (i : Int) (by omega) (by omega)
      obtain rfl := e0
      have ex : rd_T43 T (i : Int) = x := by simp [rd_T43, hx]
      rw [ex, Int.toNat_natCast] at hc0 hc1 hc2 hc3
      have Hx := Lib.hid hx
      have Hxs := Lib.hid hxs'
      clear hx ex hxs'
      have HB : Hid (Tab.Box (wr.alloc (.cells #[.string x.f0, .int .i32 x.f1, .int .i32 x.f2, .bool x.f3] 43)) wr.heap.size x) := Lib.hid (heap_alloc_new wr _)
      go_wp2_with fail
      refine ((HS.out.alloc _).put _ (by have := Hxs.out; omega) (by omega)).mono ?_
      rintro e w2 ⟨⟨u, rfl⟩, hS2, hF2⟩
      have HB2 := Lib.hid (box_fr HB.out hF2)
      have HS2 := Lib.hid hS2
      have hf0 := Tab.box_cell HB2.out 0
      have hf3 := Tab.box_cell HB2.out 3
      clear hS2 hF2 HS HB hc0 hc1 hc2 hc3
      by_cases hbare : x.f3 = true
      · rw [hbare] at hf3
        have Hb := Lib.hid hbare
        clear hbare
        go_wp2_with fail
        refine (HS2.out.put x.f0 (by omega) (by have := Hxs.out; omega)).mono ?_
        rintro e w3 ⟨⟨u, rfl⟩, hS3, hF3⟩
        have HS3 := Lib.hid hS3
        clear hS3 hF3 hf0 hf3
        go_wp2_with fail
        refine ⟨⟨i + 1, by go_num, by omega, Lib.hid ?_⟩, by simp [intOf]; omega⟩
        rw [← put_bare Hx.out Hb.out]
        exact HS3.out.kmono (by have := Hxs.out; omega)
      · have hbf : x.f3 = false := by simpa using hbare
        rw [hbf] at hf3
        have Hb := Lib.hid hbf
        clear hbare hbf
        go_wp2_with fail
        refine ⟨⟨i + 1, by go_num, by omega, Lib.hid ?_⟩, by simp [intOf]; omega⟩
        rw [← put_semi Hx.out Hb.out]
        exact HS2.out.kmono (by have := Hxs.out; omega)
    · obtain rfl : i = T.length := by omega
      have hbx : wr.cell? ⟨bt, 0, none⟩ = some (.pointer (some ⟨b0, 0, none⟩)) := by simp [World.cell?, HS.out.box]
      go_wp2_with fail
      go_ret
      obtain ⟨Pf, Nm, blk, mpb, hT, h1, h2, h3⟩ := HS.out.tr
      rw [List.take_length] at h1 h2
      exact ⟨_, Pf, Nm, blk, mpb, by rw [h3]; rfl, hT, h1, h2, HS.out.fr.below (Nat.le_refl _)⟩
theorem entity_tree.calls (w : World) : Calls Try.prog 27 #[] w fun e w' => TreePost w (tab.flatMap putOf) e w' :=
  tree_walk w tab (Lib.hid rfl) (Lib.hid (by rw [tab_length]; omega)) (Lib.hid (by
    have h : tab.all (fun x => decide (x.f0.size ≤ 100)) = true := by decide +kernel
    intro x hx
    exact of_decide_eq_true (List.all_eq_true.1 h x hx)))
#print axioms entity_tree.calls
end Tr
end Go.Proofs.Ytkinpihjjelcpaa.PE
