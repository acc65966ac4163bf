/- EntityNames: the contract of put. -/
import Derived.Test.YtkinpihjjelcpaaPN0
import Derived.WalkLawsBesides
import Derived.WalkSpells
import Derived.Lib.Hide
import Derived.RangeFuncKeeps
namespace Go.Proofs.Ytkinpihjjelcpaa.PE
open Go.RowKit Go.Proofs.YtkinpihjjelcpaaW.PrintWords Go.Proofs.YtkinpihjjelcpaaW.PrintLast Go.Proofs.YtkinpihjjelcpaaW.PrintMore
set_option linter.unusedSimpArgs false
set_option linter.unusedVariables false
namespace Tr
def bytes (s : ByteArray) : List Nat := s.data.toList.map UInt8.toNat
theorem take_bytes {s : ByteArray} {i : Nat} (h : i < s.size) : (bytes s).take (i + 1) = (bytes s).take i ++ [(s[i]'h).toNat] := by
  have hl : i < (bytes s).length := by simpa [bytes] using h
  rw [List.take_succ_eq_append_getElem hl]
  congr 2
  simp [bytes]
  rfl
theorem bytes_length (s : ByteArray) : (bytes s).length = s.size := by simp [bytes]
/-- The paths that are there when k bytes of s have been gone through. -/
def PfAt (Pf : List Nat → Bool) (s : ByteArray) (k : Nat) (q : List Nat) : Bool := Pf q || q.isPrefixOf ((bytes s).take k)

structure PutIn (w : World) (n₀ K : Nat) (Pf Nm : List Nat → Bool) (b0 : Nat) (s : ByteArray) (k : Nat) (x : Option Nat) (wr : World) : Prop where
  out : ∃ Pf' blk mpb, Trie wr n₀ (K + k) Pf' Nm blk mpb ∧ (∀ q, Pf' q = PfAt Pf s k q) ∧ blk [] = b0 ∧ x = some (blk ((bytes s).take k))
  fr : Fr n₀ w wr

theorem pre_step {α : Type} [BEq α] [LawfulBEq α] (q p : List α) (c : α) : q.isPrefixOf (p ++ [c]) = (q.isPrefixOf p || q == p ++ [c]) := by
  rw [Bool.eq_iff_iff]
  simp only [List.isPrefixOf_iff_prefix, Bool.or_eq_true, beq_iff_eq]
  constructor
  · rintro ⟨t, ht⟩
    rcases List.eq_nil_or_concat t with rfl | ⟨t', d, rfl⟩
    · exact .inr (by simpa using ht)
    · rw [List.concat_eq_append, ← List.append_assoc] at ht
      exact .inl ⟨t', (List.append_inj' ht rfl).1⟩
  · rintro (h | rfl)
    · exact h.trans (List.prefix_append _ _)
    · exact List.prefix_refl _
theorem PfAt_succ {Pf : List Nat → Bool} {s : ByteArray} {i : Nat} (h : i < s.size) (q : List Nat) : PfAt Pf s (i + 1) q = (PfAt Pf s i q || q == (bytes s).take (i + 1)) := by
  unfold PfAt
  rw [take_bytes h, pre_step, Bool.or_assoc]
section
variable {w wr w' : World} {n₀ K i b0 : Nat} {Pf Nm Pf' : List Nat → Bool} {blk mpb : List Nat → Nat} {s : ByteArray}
theorem PutIn.stay (hT : Trie wr n₀ (K + i) Pf' Nm blk mpb) (hF : Fr n₀ w wr) (hP : ∀ q, Pf' q = PfAt Pf s i q) (hb : blk [] = b0) (h : i < s.size) (hk : Pf' ((bytes s).take (i + 1)) = true) (m : Nat) :
    PutIn w n₀ K Pf Nm b0 s (i + 1) (some (blk ((bytes s).take (i + 1)))) (wr.drewN m) where
  out := ⟨Pf', blk, mpb, ((hT.drewN m).kmono (by omega)), fun q => by
    rw [PfAt_succ h, ← hP]
    by_cases e : q = (bytes s).take (i + 1)
    · rw [e, hk]; rfl
    · simp [e], hb, rfl⟩
  fr := hF.trans ⟨rfl, rfl, rfl, Nat.le_refl _, fun _ _ h _ => h⟩
/-- The world when a node and its map have been laid. -/
def laid (w : World) : World := (w.alloc (.map #[] 0)).alloc (.cells #[.map (some w.heap.size), .bool false] 52)
theorem laid_grown (w : World) : w.grownBy (laid w) none :=
  let h := World.grownBy_alloc w (.map #[] 0) none
  let k := World.grownBy_alloc (w.alloc (.map #[] 0)) (.cells #[.map (some w.heap.size), .bool false] 52) none
  ⟨k.os.trans h.os, k.tape.trans h.tape, k.output.trans h.output, Nat.le_trans h.size k.size, fun i hi hn => (k.block i (Nat.lt_of_lt_of_le hi h.size) hn).trans (h.block i hi hn)⟩
theorem laid_map (w : World) : mapFn (laid w) w.heap.size 0 (fun _ => none) := (mapFn_made w).kept (World.grownBy_alloc _ _ none) (by simp)
theorem laid_node (w : World) : (laid w).heap[w.heap.size + 1]? = some (.cells #[.map (some w.heap.size), .bool false] 52 (0, 0)) := by
  have := heap_alloc_new (w.alloc (.map #[] 0)) (.cells #[.map (some w.heap.size), .bool false] 52)
  rwa [World.size_alloc] at this
theorem store_run (hT : Trie wr n₀ (K + i) Pf' Nm blk mpb) {p : List Nat} (hp : Pf' p = true) {c : Nat} (hc : c < 256) (hn : K + i < maxLen) (k : Nat) :
    ∃ w', (Instr.mapUpdate 50 (.map (some (mpb p))) (.int .u8 c) (.pointer (some ⟨wr.heap.size + 1, 0, none⟩))).run Try.prog (laid (wr.drewN k)) = .ok () w' ∧
    mapFn w' (mpb p) (K + i + 1) (fun x => if x = c then some (wr.heap.size + 1) else if Pf' (p ++ [x]) then some (blk (p ++ [x])) else none) ∧ (laid (wr.drewN k)).grownBy w' (some (mpb p)) :=
  (((hT.drewN k).kids p hp).kept (laid_grown _) (by simp)).update hc hn _
theorem PutIn.new (hT : Trie wr n₀ (K + i) Pf' Nm blk mpb) (hF : Fr n₀ w wr) (hP : ∀ q, Pf' q = PfAt Pf s i q) (hb : blk [] = b0) (h : i < s.size) (hk : Pf' ((bytes s).take (i + 1)) = false) (hn : n₀ ≤ w.heap.size) (hp : Pf' ((bytes s).take i) = true) {k : Nat}
    (hm : mapFn w' (mpb ((bytes s).take i)) (K + i + 1) (fun x => if x = (s[i]'h).toNat then some (wr.heap.size + 1) else if Pf' ((bytes s).take i ++ [x]) then some (blk ((bytes s).take i ++ [x])) else none)) (hg : (laid (wr.drewN k)).grownBy w' (some (mpb ((bytes s).take i)))) (m : Nat) :
    PutIn w n₀ K Pf Nm b0 s (i + 1) (some (wr.heap.size + 1)) (w'.drewN m) := by
  have e1 := take_bytes h
  have hn' : n₀ ≤ wr.heap.size := Nat.le_trans hn hF.size
  rw [e1] at hk
  have hT' := (hT.drewN k).child (laid_grown _) hp hk (bm := wr.heap.size) (bs := wr.heap.size + 1) (Nat.le_refl _) (Nat.le_succ _) (laid_map _) (laid_node _) hg hm hn'
  refine ⟨⟨_, _, _, hT'.drewN m, fun q => ?_, ?_, ?_⟩, ?_⟩
  · rw [PfAt_succ h, ← hP, e1]
  · rw [if_neg (by simp)]; exact hb
  · rw [if_pos e1]
  · have f1 : Fr n₀ (wr.drewN k) (laid (wr.drewN k)) := Fr.grown (row := none) (laid_grown _) (fun r e => by cases e)
    have f0 : Fr n₀ wr (wr.drewN k) := ⟨rfl, rfl, rfl, Nat.le_refl _, fun _ _ h _ => h⟩
    have f2 : Fr n₀ (laid (wr.drewN k)) w' := Fr.grown hg (fun r e => by
      cases e
      refine ⟨(hT.ge _ hp).2, fun o ho => ?_⟩
      obtain ⟨es, ck, hmm⟩ := (((hT.drewN k).kids _ hp).kept (laid_grown _) (by simp)).isMap
      rw [hmm] at ho
      cases ho
      simp [Else])
    exact (((hF.trans f0).trans f1).trans f2).trans ⟨rfl, rfl, rfl, Nat.le_refl _, fun _ _ h _ => h⟩
end
set_option maxHeartbeats 4000000 in
set_option maxRecDepth 100000 in
theorem put_walk (s : ByteArray) (bt b0 : Nat) (w : World) (n₀ K : Nat) (Pf Nm : List Nat → Bool) (H0 : Hid (PutIn w n₀ K Pf Nm b0 s 0 (some b0) w)) (hbt : w.heap[bt]? = some (.cells #[.pointer (some ⟨b0, 0, none⟩)] 48 (0, 0))) (hs : s.size ≤ 1000) (hK : K ≤ 10000000) (hn : n₀ ≤ w.heap.size) :
    Calls Try.prog 30 #[.string s, .pointer (some ⟨bt, 0, none⟩)] w fun e w' => (∃ v, e = .returned v) ∧
      ∃ Pf' Nm' blk mpb, Trie w' n₀ (K + s.size) Pf' Nm' blk mpb ∧ (∀ q, Pf' q = PfAt Pf s s.size q) ∧ (∀ q, Nm' q = (Nm q || q == bytes s)) ∧ blk [] = b0 ∧ Fr n₀ w w' := by
  have ct : w.cell? ⟨bt, 0, none⟩ = some (.pointer (some ⟨b0, 0, none⟩)) := by simp [World.cell?, hbt]
  go_enter Try.func30, Try.ntmps30
  go_wp2_with fail
  go_loopw [3, 8] (fun v3 v8 wr => ∃ (i x : Nat), v8 = .int .i64 i ∧ i ≤ s.size ∧ v3 = .pointer (some ⟨x, 0, none⟩) ∧ PutIn w n₀ K Pf Nm b0 s i (some x) wr) (fun _ v8 _ => s.size - (intOf v8).toNat)
  case atStart => exact ⟨0, b0, rfl, Nat.zero_le _, rfl, H0.out⟩
  case round =>
    obtain ⟨i, x, rfl, hi, rfl, hP⟩ := hrel
    obtain ⟨⟨Pf', blk, mpb, hT, hPf, hb0, hx⟩, hFr⟩ := hP
    obtain rfl : x = blk ((bytes s).take i) := by simpa using hx
    have hp : Pf' ((bytes s).take i) = true := by rw [hPf]; simp [PfAt]
    have c0 := hT.cell0 hp
    have c1 := hT.cell1 hp
    have f1 := hT.froz hp 1
    by_cases hlt : i < s.size
    · have hc : (s[i]'hlt).toNat < 256 := UInt8.toNat_lt _
      have hlook := hT.look hp hc
      have HT := Lib.hid hT
      have HF := Lib.hid hFr
      have HPf := Lib.hid hPf
      have HTk := Lib.hid (take_bytes hlt)
      rw [← HTk.out] at hlook
      clear hT hFr hPf hx
      obtain ⟨m, hm⟩ : ∃ m, mpb ((bytes s).take i) = m := ⟨_, rfl⟩
      obtain ⟨x, hx⟩ : ∃ x, blk ((bytes s).take i) = x := ⟨_, rfl⟩
      rw [hm] at c0 hlook
      rw [hx] at c0 c1 f1 ⊢
      have Hm := Lib.hid hm
      have Hx := Lib.hid hx
      clear hm hx
      by_cases hk : Pf' ((bytes s).take (i + 1)) = true
      · rw [if_pos hk] at hlook
        simp only [ptr] at hlook
        go_wp2_with fail
        go_quiet (fail)
        go_wp2_with fail
        go_quiet (fail)
        go_wp2_with fail
        exact ⟨⟨i + 1, _, by push_cast; rfl, by omega, rfl, PutIn.stay HT.out HF.out HPf.out hb0 hlt hk _⟩, by simp [intOf]; omega⟩
      · rw [if_neg hk] at hlook
        simp only [ptr] at hlook
        have hu := fun k => store_run HT.out hp hc (show K + i < maxLen by have : maxLen = 9223372036854775807 := rfl; omega) k
        rw [Hm.out] at hu
        obtain ⟨U, hU⟩ := Classical.axiomOfChoice hu
        clear hu
        have hup := fun k => (hU k).1
        have cU : ∀ k, (U k).cell? ⟨x, 0, none⟩ = some (.map (some m)) := fun k => by
          have h1 := cell_kept (show (wr.drewN k).cell? _ = _ from c0) (laid_grown (wr.drewN k)) (fun r e => by cases e)
          refine cell_kept h1 (hU k).2.2 (fun r e => ?_)
          cases e
          obtain ⟨es, ck, hmm⟩ := ((HT.out.drewN k).kids _ hp |>.kept (laid_grown _) (by simp)).isMap
          exact ⟨_, Hm.out ▸ hmm, rfl⟩
        have lU : ∀ k j, (Instr.lookup 50 (.map (some m)) (.int .u8 (s[i]'hlt).toNat) false).run Try.prog ((U k).drewN j) = .ok (.pointer (some ⟨wr.heap.size + 1, 0, none⟩)) ((U k).drewN j) := fun k j => by
          have h1 := ((hU k).2.1.at_block (w' := (U k).drewN j) rfl).lookup hc
          rw [if_pos rfl] at h1
          exact h1
        have HU := Lib.hid hU
        clear hU
        have hmm := @run_makeMap Try.prog
        have hxl : x < wr.heap.size := by have := HT.out.ltB hp; rw [Hx.out] at this; exact this
        have ca1 : ∀ k, ((wr.drewN k).alloc (.map #[] 0)).cell? ⟨x, 0, none⟩ = some (.map (some m)) := fun k => by
          rw [World.cell?_alloc_lt _ _ _ (by exact hxl)]; exact c0
        have ca2 : ∀ k, (((wr.drewN k).alloc (.map #[] 0)).alloc (.cells #[.map (some wr.heap.size), .bool false] 52)).cell? ⟨x, 0, none⟩ = some (.map (some m)) := fun k => by
          rw [World.cell?_alloc_lt _ _ _ (by rw [World.size_alloc]; exact Nat.lt_succ_of_lt hxl)]; exact ca1 k
        simp only [laid, World.heap_drewN] at hup
        go_wp2_with fail
        go_quiet (fail)
        go_wp2_with fail
        go_region
        go_wp2_with fail
        go_quiet (fail)
        go_wp2_with fail
        refine ⟨⟨i + 1, _, by push_cast; rfl, by omega, rfl, ?_⟩, by simp [intOf]; omega⟩
        have e := Hm.out
        subst e
        exact PutIn.new HT.out HF.out HPf.out hb0 hlt (by simpa using hk) hn hp (HU.out _).2.1 (HU.out _).2.2 _
    · obtain rfl : i = s.size := by omega
      have et : (bytes s).take s.size = bytes s := List.take_of_length_le (by rw [bytes_length]; exact Nat.le_refl _)
      rw [et] at hp c0 c1 f1 ⊢
      have HT := Lib.hid (hT.mark hp)
      have HF := Lib.hid hFr
      have HPf := Lib.hid hPf
      have hge := (hT.ge _ hp).1
      have hnd := hT.node _ hp
      have HN := Lib.hid hnd
      clear hT hFr hPf hx hnd
      obtain ⟨x, hx⟩ : ∃ x, blk (bytes s) = x := ⟨_, rfl⟩
      rw [hx] at c0 c1 f1 hge HT HN ⊢
      have Hx := Lib.hid hx
      clear hx
      go_wp2_with fail
      go_end0
      refine ⟨⟨_, rfl⟩, Pf', _, blk, mpb, HT.out, HPf.out, fun q => rfl, hb0, HF.out.trans ⟨rfl, rfl, rfl, ?_, fun j o hj ho => ?_⟩⟩
      · show wr.heap.size ≤ (wr.heap.modify _ _).size
        rw [Array.size_modify]; exact Nat.le_refl _
      · refine (Below.heap_setCell wr ⟨x, 1, none⟩ _ j (fun e => ?_)).trans hj
        have e : j = x := e
        subst e
        have hnd := HN.out
        rw [hj] at hnd
        cases hnd
        rcases ho with ho | ho
        · omega
        · exact ho rfl
#print axioms put_walk
end Tr
end Go.Proofs.Ytkinpihjjelcpaa.PE
