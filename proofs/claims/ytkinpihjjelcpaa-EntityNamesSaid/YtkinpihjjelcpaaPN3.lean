/- EntityNames: the contract of the recursive walk over the tree. -/
import Derived.Test.YtkinpihjjelcpaaPN2
import Derived.RangeFuncKeeps
import Derived.RangeFuncBound
import Derived.RangeFuncLeaves
import Derived.RangeFuncNested
import Derived.RangeFuncCalls
import Derived.Shelf.Abstract
import Derived.Shelf.RegionOpen
import Derived.WalkKit
import Derived.OwnWalkIn
import Derived.TacticsInMore
import Derived.LoopNIn
import Derived.LoopIn
namespace Go.Proofs.Ytkinpihjjelcpaa.PE
open Go.RowKit Go.Shelf Go.Proofs.YtkinpihjjelcpaaW.PrintWords Go.Proofs.YtkinpihjjelcpaaW.PrintLast Go.Proofs.YtkinpihjjelcpaaW.PrintMore
set_option linter.unusedSimpArgs false
set_option linter.unusedVariables false
attribute [local go_sem] Oper.semAt_some
namespace Tr
theorem room_none {F : Fence} (hd : F.depth = none) (k : Nat) : F.room k := fun d h => by rw [hd] at h; cases h
theorem roundAny {F : Fence} (hd : F.depth = none) {m m' : Nat} {P : Program} {l : Nat} {f : FuncId} {tmps : Array Value} {assign body : Code} {w : World} {R : Ending → World → Prop}
    (h : RoundIn F m P l f tmps assign body w R) : RoundIn F m' P l f tmps assign body w R := ⟨h.1, fun c cs _ => h.2 c cs (room_none hd _)⟩
theorem yieldAny {F : Fence} (hd : F.depth = none) {m : Nat} (m' : Nat) {P : Program} {l : Nat} {args : Array Value} {W : World} {R : Ending → World → Prop} (h : YieldAt F m P l args W R) : YieldAt F m' P l args W R := by
  obtain ⟨fn, tmps, assign, body, hy, hR⟩ := h
  exact ⟨fn, tmps, assign, body, hy, roundAny hd hR⟩
/-- What a round that goes on keeps: cells and maps from n₀ on. -/
structure Kp (n₀ : Nat) (W W' : World) : Prop where
  size : W.heap.size ≤ W'.heap.size
  same : ∀ (i : Nat) (o : Obj), n₀ ≤ i → W.heap[i]? = some o → (o.isCells = true ∨ o.isWalk = true) → W'.heap[i]? = some o
theorem Kp.refl (n₀ : Nat) (W : World) : Kp n₀ W W := ⟨Nat.le_refl _, fun _ _ _ h _ => h⟩
theorem Kp.trans {n₀ : Nat} {A B C : World} (h : Kp n₀ A B) (k : Kp n₀ B C) : Kp n₀ A C := ⟨Nat.le_trans h.size k.size, fun i o hi ho hc => k.same i o hi (h.same i o hi ho hc) hc⟩
theorem Kp.drewN (n₀ : Nat) (W : World) (m : Nat) : Kp n₀ W (W.drewN m) := ⟨Nat.le_refl _, fun _ _ _ h _ => h⟩
section
variable {n₀ K By Bw l : Nat} {Pf Nm : List Nat → Bool} {blk mpb : List Nat → Nat} {W W' : World}
structure WM (n₀ K By Bw l : Nat) (Pf Nm : List Nat → Bool) (blk mpb : List Nat → Nat) (W : World) : Prop where
  tr : Trie W n₀ K Pf Nm blk mpb
  yb : W.heap[By]? = some (.cells #[.func (.yield l) #[] #[]] 28 (0, 0))
  wb : W.heap[Bw]? = some (.cells #[.func (.func 28) #[] #[.pointer (some ⟨By, 0, none⟩), .pointer (some ⟨Bw, 0, none⟩)]] 53 (0, 0))
  yge : n₀ ≤ By
  wge : n₀ ≤ Bw
theorem WM.kp (h : WM n₀ K By Bw l Pf Nm blk mpb W) (hk : Kp n₀ W W') : WM n₀ K By Bw l Pf Nm blk mpb W' where
  tr := { h.tr with
    node := fun p hp => hk.same _ _ (h.tr.ge p hp).1 (h.tr.node p hp) (.inl rfl)
    kids := fun p hp => by
      obtain ⟨es, ck, hm⟩ := (h.tr.kids p hp).isMap
      exact (h.tr.kids p hp).at_block ((hk.same _ _ (h.tr.ge p hp).2 hm (.inr rfl)).trans hm.symm) }
  yb := hk.same _ _ h.yge h.yb (.inl rfl)
  wb := hk.same _ _ h.wge h.wb (.inl rfl)
  yge := h.yge
  wge := h.wge
/-- How many come of the children below c. -/
def upTo (Pf : List Nat → Bool) (ch : Nat → Nat) (p : List Nat) : Nat → Nat
  | 0 => 0
  | c + 1 => upTo Pf ch p c + (if Pf (p ++ [c]) then ch c else 0)
def cntAt (Pf Nm : List Nat → Bool) (ch : Nat → Nat) (p : List Nat) : Nat := (if Nm p then 1 else 0) + upTo Pf ch p 128
theorem upTo_le {ch : Nat → Nat} {p : List Nat} {c d : Nat} (h : c ≤ d) : upTo Pf ch p c ≤ upTo Pf ch p d := by
  induction h with
  | refl => exact Nat.le_refl _
  | step _ ih => exact Nat.le_trans ih (Nat.le_add_right _ _)
/-- The contract of a call of walk. -/
def WalkOf (F : Fence) (l n₀ By Bw : Nat) (J Jx : List ByteArray → World → Prop) (b cnt : Nat) (n : Nat) (s : ByteArray) (pre : List ByteArray) (W : World) : Prop :=
  CallsIn F n Try.prog 28 #[.pointer (some ⟨b, 0, none⟩), .string s, .pointer (some ⟨By, 0, none⟩), .pointer (some ⟨Bw, 0, none⟩)] W fun e W' =>
    (e = .returned (.bool true) ∧ (∃ ys, ys.length = cnt ∧ J (pre ++ ys) W') ∧ Kp n₀ W W') ∨ (e = .returned (.bool false) ∧ ∃ ys, Jx (pre ++ ys) W')

theorem enc_size (c : Nat) (h : c < 128) : (Utf8.encode (c : Int)).size ≤ 4 := by
  have hv : Utf8.valid (c : Int) = true := by rw [validRune_eq]; simp [validRune]; omega
  unfold Utf8.encode
  have hc : (c : Int).toNat < 128 := by omega
  simp only [hv, if_true, hc]
  exact (by decide : 1 ≤ 4)
set_option maxHeartbeats 4000000 in
set_option maxRecDepth 100000 in
theorem walk_step (F : Fence) (hd : F.depth = none) (h28 : F.fn 28) (hro : F.round = none) (l n₀ N K By Bw : Nat) (J Jx : List ByteArray → World → Prop)
    (hY : ∀ m pre x W, J pre W → pre.length < N → YieldAt F m Try.prog l #[.string x] W fun e W' => (e = .returned (.bool true) ∧ J (pre ++ [x]) W' ∧ Kp n₀ W W') ∨ (e = .returned (.bool false) ∧ Jx (pre ++ [x]) W'))
    (Pf Nm : List Nat → Bool) (blk mpb : List Nat → Nat) (p : List Nat) (ch : Nat → Nat) (hp : Pf p = true) (M : Nat) (hM : M + 1 ≤ 1000)
    (ih : ∀ c n s pre W, c < 128 → Pf (p ++ [c]) = true → s.size ≤ (M + 1) * 4 → WM n₀ K By Bw l Pf Nm blk mpb W → J pre W → pre.length + ch c ≤ N → WalkOf F l n₀ By Bw J Jx (blk (p ++ [c])) (ch c) n s pre W)
    (n : Nat) (s : ByteArray) (pre : List ByteArray) (W : World) (hs : s.size ≤ M * 4) (hW : WM n₀ K By Bw l Pf Nm blk mpb W) (h0 : J pre W) (hN : pre.length + cntAt Pf Nm ch p ≤ N) :
    WalkOf F l n₀ By Bw J Jx (blk p) (cntAt Pf Nm ch p) n s pre W := by
  unfold WalkOf
  have c1 := hW.tr.cell1 hp
  have cy : W.cell? ⟨By, 0, none⟩ = some (.func (.yield l) #[] #[]) := by simp [World.cell?, hW.yb]
  have hdd : ∀ k : Nat, (F.depth.isSome = true → 1 ≤ k) := fun k h => by rw [hd] at h; cases h
  obtain ⟨b, hb⟩ : ∃ b, b = blk p := ⟨_, rfl⟩
  rw [← hb] at c1 ⊢
  have Hb := Lib.hid hb
  clear hb
  by_cases hnm : Nm p = true
  · rw [hnm] at c1
    obtain ⟨fn, tmps, assign, body, hy, hR⟩ := hY (n - 1) pre s W h0 (by unfold cntAt at hN; rw [if_pos hnm] at hN; omega)
    refine callsIn_of_wp Try.func28 rfl h28 ?_ hro
    simp only [Try.ntmps28, List.size_toArray, List.length_cons, List.length_nil, Nat.reduceAdd, Nat.reduceSub, Array.replicate_succ, Array.replicate_zero, List.push_toArray, List.append_toArray, List.nil_append, List.cons_append]
    gi_wp2_with (first
      | ((try refine ⟨hdd _, ?_⟩); refine hR.mono ?_; clear hR; rintro e W2 (⟨rfl, hJ2, hk2⟩ | ⟨rfl, hx2⟩)))
    · have hk2' := hk2
      gi_loopw [19] (fun v19 wr => ∃ (c : Nat) (ys : List ByteArray), v19 = .int .i64 c ∧ c ≤ 128 ∧ ys.length = 1 + upTo Pf ch p c ∧ J (pre ++ ys) wr ∧ Kp n₀ W wr) (fun v19 _ => 128 - (intOf v19).toNat)
      case atStart => exact ⟨0, [s], rfl, by omega, rfl, hJ2, hk2'⟩
      case round =>
        obtain ⟨c, ys, rfl, hc, hys, hJc, hkc⟩ := hrel
        have hWM := hW.kp hkc
        by_cases hlt : c < 128
        · have tl : decide ((c : Int) < 128) = true := decide_eq_true (by omega)
          have c0 := hWM.tr.cell0 hp
          have hlook := hWM.tr.look hp (show c < 256 by omega) 0
          rw [World.drewN_zero] at hlook
          rw [← Hb.out] at c0
          have hw8 : IntKind.u8.wrap (c : Int) = (c : Int) := by exact wraps_u8 _ (by omega) (by omega)
          have cw : wr.cell? ⟨Bw, 0, none⟩ = some (.func (.func 28) #[] #[.pointer (some ⟨By, 0, none⟩), .pointer (some ⟨Bw, 0, none⟩)]) := by simp [World.cell?, hWM.wb]
          by_cases hk : Pf (p ++ [c]) = true
          · rw [if_pos hk] at hlook
            simp only [ptr] at hlook
            have hw32 : IntKind.i32.wrap (c : Int) = (c : Int) := by rw [IntKind.wrap_i32]; omega
            obtain ⟨t, ht⟩ : ∃ t, Utf8.encode (c : Int) = t := ⟨_, rfl⟩
            have htz : t.size ≤ 4 := ht ▸ enc_size c hlt
            have hsz : s.size + t.size ≤ 5000 := by omega
            have hup : upTo Pf ch p (c + 1) = upTo Pf ch p c + ch c := by simp [upTo, hk]
            have ih1 := ih c (n - 1) (s ++ t) (pre ++ ys) wr hlt hk (by rw [ByteArray.size_append]; omega) hWM hJc (by
              have h1 := upTo_le (Pf := Pf) (ch := ch) (p := p) (show c + 1 ≤ 128 by omega)
              rw [hup] at h1
              unfold cntAt at hN
              rw [if_pos hnm] at hN
              rw [List.length_append, hys]
              omega)
            unfold WalkOf at ih1
            gi_wp2_with ((try refine ⟨hdd _, ?_⟩); gi_at_call 28; refine ih1.mono ?_; clear ih1; rintro e W3 (⟨rfl, ⟨zs, hzs, hJ3⟩, hk3⟩ | ⟨rfl, zs, hx3⟩))
            · exact ⟨⟨c + 1, ys ++ zs, by go_num, by omega, by rw [hup, List.length_append, hys, hzs]; omega, by rw [← List.append_assoc]; exact hJ3, hkc.trans hk3⟩, by simp [intOf]; omega⟩
            · go_ret
              exact .inr ⟨rfl, ys ++ zs, by rw [← List.append_assoc]; exact hx3⟩
          · rw [if_neg hk] at hlook
            simp only [ptr] at hlook
            gi_wp2
            refine ⟨fun _ h => (by cases h), ?_⟩
            gi_wp2
            have hup : upTo Pf ch p (c + 1) = upTo Pf ch p c := by simp [upTo, hk]
            exact ⟨⟨c + 1, ys, by go_num, by omega, by rw [hup]; exact hys, hJc, hkc⟩, by simp [intOf]; omega⟩
        · obtain rfl : c = 128 := by omega
          gi_wp2
          go_ret
          exact .inl ⟨rfl, ⟨ys, by unfold cntAt; rw [if_pos hnm]; exact hys, hJc⟩, hkc⟩
    · go_ret
      exact .inr ⟨rfl, [s], hx2⟩
  · have hnf : Nm p = false := by simpa using hnm
    rw [hnf] at c1
    refine callsIn_of_wp Try.func28 rfl h28 ?_ hro
    simp only [Try.ntmps28, List.size_toArray, List.length_cons, List.length_nil, Nat.reduceAdd, Nat.reduceSub, Array.replicate_succ, Array.replicate_zero, List.push_toArray, List.append_toArray, List.nil_append, List.cons_append]
    gi_wp2
    refine ⟨fun _ h => (by cases h), ?_⟩
    gi_wp2
    gi_loopw [19] (fun v19 wr => ∃ (c : Nat) (ys : List ByteArray), v19 = .int .i64 c ∧ c ≤ 128 ∧ ys.length = 0 + upTo Pf ch p c ∧ J (pre ++ ys) wr ∧ Kp n₀ W wr) (fun v19 _ => 128 - (intOf v19).toNat)
    case atStart => exact ⟨0, [], rfl, by omega, rfl, by simpa using h0, Kp.refl _ _⟩
    case round =>
      obtain ⟨c, ys, rfl, hc, hys, hJc, hkc⟩ := hrel
      have hWM := hW.kp hkc
      by_cases hlt : c < 128
      · have tl : decide ((c : Int) < 128) = true := decide_eq_true (by omega)
        have c0 := hWM.tr.cell0 hp
        have hlook := hWM.tr.look hp (show c < 256 by omega) 0
        rw [World.drewN_zero] at hlook
        rw [← Hb.out] at c0
        have hw8 : IntKind.u8.wrap (c : Int) = (c : Int) := by exact wraps_u8 _ (by omega) (by omega)
        have cw : wr.cell? ⟨Bw, 0, none⟩ = some (.func (.func 28) #[] #[.pointer (some ⟨By, 0, none⟩), .pointer (some ⟨Bw, 0, none⟩)]) := by simp [World.cell?, hWM.wb]
        by_cases hk : Pf (p ++ [c]) = true
        · rw [if_pos hk] at hlook
          simp only [ptr] at hlook
          have hw32 : IntKind.i32.wrap (c : Int) = (c : Int) := by rw [IntKind.wrap_i32]; omega
          obtain ⟨t, ht⟩ : ∃ t, Utf8.encode (c : Int) = t := ⟨_, rfl⟩
          have htz : t.size ≤ 4 := ht ▸ enc_size c hlt
          have hsz : s.size + t.size ≤ 5000 := by omega
          have hup : upTo Pf ch p (c + 1) = upTo Pf ch p c + ch c := by simp [upTo, hk]
          have ih1 := ih c (n - 1) (s ++ t) (pre ++ ys) wr hlt hk (by rw [ByteArray.size_append]; omega) hWM hJc (by
            have h1 := upTo_le (Pf := Pf) (ch := ch) (p := p) (show c + 1 ≤ 128 by omega)
            rw [hup] at h1
            unfold cntAt at hN
            rw [if_neg hnm] at hN
            rw [List.length_append, hys]
            omega)
          unfold WalkOf at ih1
          gi_wp2_with ((try refine ⟨hdd _, ?_⟩); gi_at_call 28; refine ih1.mono ?_; clear ih1; rintro e W3 (⟨rfl, ⟨zs, hzs, hJ3⟩, hk3⟩ | ⟨rfl, zs, hx3⟩))
          · exact ⟨⟨c + 1, ys ++ zs, by go_num, by omega, by rw [hup, List.length_append, hys, hzs]; omega, by rw [← List.append_assoc]; exact hJ3, hkc.trans hk3⟩, by simp [intOf]; omega⟩
          · go_ret
            exact .inr ⟨rfl, ys ++ zs, by rw [← List.append_assoc]; exact hx3⟩
        · rw [if_neg hk] at hlook
          simp only [ptr] at hlook
          gi_wp2
          refine ⟨fun _ h => (by cases h), ?_⟩
          gi_wp2
          have hup : upTo Pf ch p (c + 1) = upTo Pf ch p c := by simp [upTo, hk]
          exact ⟨⟨c + 1, ys, by go_num, by omega, by rw [hup]; exact hys, hJc, hkc⟩, by simp [intOf]; omega⟩
      · obtain rfl : c = 128 := by omega
        gi_wp2
        go_ret
        exact .inl ⟨rfl, ⟨ys, by unfold cntAt; rw [if_neg hnm]; exact hys, hJc⟩, hkc⟩
/-- How many marks lie below p, d levels deep. -/
def walkN (Pf Nm : List Nat → Bool) : Nat → List Nat → Nat
  | 0, p => cntAt Pf Nm (fun _ => 0) p
  | d + 1, p => cntAt Pf Nm (fun c => walkN Pf Nm d (p ++ [c])) p
theorem walk_all (F : Fence) (hd : F.depth = none) (h28 : F.fn 28) (hro : F.round = none) (l n₀ N K By Bw : Nat) (J Jx : List ByteArray → World → Prop)
    (hY : ∀ m pre x W, J pre W → pre.length < N → YieldAt F m Try.prog l #[.string x] W fun e W' => (e = .returned (.bool true) ∧ J (pre ++ [x]) W' ∧ Kp n₀ W W') ∨ (e = .returned (.bool false) ∧ Jx (pre ++ [x]) W'))
    (Pf Nm : List Nat → Bool) (blk mpb : List Nat → Nat) : ∀ (d M : Nat) (p : List Nat), M + d ≤ 999 → Pf p = true → (∀ q, Pf q = true → p <+: q → q.length ≤ p.length + d) →
    ∀ (n : Nat) (s : ByteArray) (pre : List ByteArray) (W : World), s.size ≤ M * 4 → WM n₀ K By Bw l Pf Nm blk mpb W → J pre W → pre.length + walkN Pf Nm d p ≤ N → WalkOf F l n₀ By Bw J Jx (blk p) (walkN Pf Nm d p) n s pre W
  | 0, M, p, hM, hp, hq => walk_step F hd h28 hro l n₀ N K By Bw J Jx hY Pf Nm blk mpb p _ hp M (by omega) (fun c n s pre W _ hk => by
      have := hq _ hk (List.prefix_append _ _)
      rw [List.length_append, List.length_singleton] at this
      omega)
  | d + 1, M, p, hM, hp, hq => walk_step F hd h28 hro l n₀ N K By Bw J Jx hY Pf Nm blk mpb p _ hp M (by omega) (fun c n s pre W _ hk hs hW hJ hN =>
      walk_all F hd h28 hro l n₀ N K By Bw J Jx hY Pf Nm blk mpb d (M + 1) (p ++ [c]) (by omega) hk (fun q h1 h2 => by
        have := hq q h1 ((List.prefix_append _ _).trans h2)
        rw [List.length_append, List.length_singleton]
        omega) n s pre W hs hW hJ hN)
#print axioms walk_all
end
end Tr
end Go.Proofs.Ytkinpihjjelcpaa.PE
