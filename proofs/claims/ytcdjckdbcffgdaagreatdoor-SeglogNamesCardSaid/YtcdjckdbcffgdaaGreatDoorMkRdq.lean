/- The iterator of index.Get: frames' payloads, from a mark on. -/
import Derived.RangeFuncBound
import Derived.RangeFuncCalls
import Derived.Shelf.Abstract
import Derived.Shelf.RegionOpen
import Derived.OwnWalkIn
import Derived.TacticsInMore
import Derived.LoopNIn
import Derived.LoopIn
import Derived.BigRegionIn
import Derived.Test.YtcdjckdbcffgdaaGreatDoorMCd
namespace Go.Proofs.YtcdjckdbcffgdaaGreatDoor
open Go.RowKit Go.Shelf
attribute [local go_sem] Oper.semAt_some

/-- A payload as it is told, with a code. -/
structure RdX where
  p : ByteArray
  e : Int
def rdEnc (x : RdX) : Array Value := #[.string x.p, .int .i64 x.e]
/-- What is read at a place, for a number. -/
def rdOne (s : List UInt8) (a q : Nat) : Int × List UInt8 := (if (frRead (s.drop a)).1 = 0 ∧ (frRead (s.drop a)).2.1 ≠ q then 4 else (frRead (s.drop a)).1, (frRead (s.drop a)).2.2)
def rdChain (s : List UInt8) : Nat → Nat → List RdX → Prop
  | _, _, [] => True
  | a, q, x :: r => x.e = (rdOne s a q).1 ∧ x.p.data.toList = (rdOne s a q).2 ∧ (x.e ≠ 0 → r = []) ∧ rdChain s (a + 16 + x.p.size) (q + 1) r
def rdEnd : Nat → List RdX → Nat
  | a, [] => a
  | a, x :: r => rdEnd (a + 16 + x.p.size) r
theorem rdEnd_snoc (a : Nat) (l : List RdX) (x : RdX) : rdEnd a (l ++ [x]) = rdEnd a l + 16 + x.p.size := by
  induction l generalizing a with
  | nil => rfl
  | cons y r ih => exact ih _
theorem rdChain_snoc {s : List UInt8} {l : List RdX} {x : RdX} : ∀ {a q : Nat}, rdChain s a q l → (∀ y ∈ l, y.e = 0) → x.e = (rdOne s (rdEnd a l) (q + l.length)).1 → x.p.data.toList = (rdOne s (rdEnd a l) (q + l.length)).2 → rdChain s a q (l ++ [x]) := by
  induction l with
  | nil => intro a q _ _ h1 h2; exact ⟨h1, h2, fun _ => rfl, trivial⟩
  | cons y r ih =>
    intro a q h h0 h1 h2
    obtain ⟨g1, g2, g3, g4⟩ := h
    refine ⟨g1, g2, fun hne => absurd (h0 y (by simp)) hne, ih g4 (fun z hz => h0 z (by simp [hz])) ?_ ?_⟩
    · rw [h1, List.length_cons, show q + (r.length + 1) = q + 1 + r.length from by omega]; rfl
    · rw [h2, List.length_cons, show q + (r.length + 1) = q + 1 + r.length from by omega]; rfl
/-- It ends by itself behind an error alone. -/
def RdDone (s : List UInt8) (a q : Nat) (xs : List RdX) : Prop := rdChain s a q xs ∧ ∃ x, xs.getLast? = some x ∧ x.e ≠ 0
def RdKeep (c2 : Nat) (A B : World) : Prop := A.heap.size ≤ B.heap.size ∧ B.heap[c2]? = A.heap[c2]?

set_option maxRecDepth 100000 in
set_option maxHeartbeats 4000000 in
theorem read_seq (w : World) (c1 c2 : Nat) (s : ByteArray) (a0 q0 : Nat) (hs : s.size ≤ 1099511627776) (ha : a0 ≤ s.size) (hq : q0 ≤ 1048576)
    (hb1 : w.heap[c1]? = some (.cells #[.int .i64 (q0 : Int), .int .i64 (a0 : Int)] 190 (0, 0))) (hb2 : w.heap[c2]? = some (.cells #[.string s] 9 (0, 0))) (N : Nat) (hN : s.size < N) :
    SeqOwn Fence.wide 5 Tryz.prog 186 #[.pointer (some ⟨c1, 0, none⟩), .pointer (some ⟨c2, 0, none⟩)] rdEnc (fun _ => False) (RdKeep c2) (RdDone s.data.toList a0 q0) (rdChain s.data.toList a0 q0) N w := by
  intro l J Jx W hW hJ hJx hY h0
  have hc1 := (hW.block _ (lt_of_block hb1)).trans hb1
  have hc2 := (hW.block _ (lt_of_block hb2)).trans hb2
  have m0 : W.cell? ⟨c1, 0, none⟩ = some (.int .i64 (q0 : Int)) := (cell_of_row _ _ _ _ _ _ hc1).trans rfl
  have m1 : W.cell? ⟨c1, 1, none⟩ = some (.int .i64 (a0 : Int)) := (cell_of_row _ _ _ _ _ _ hc1).trans rfl
  have HC2 := Lib.hid hc2
  have HJ := Lib.hid hJ
  have HJX := Lib.hid hJx
  have HY := Lib.hid hY
  have H0 := Lib.hid h0
  clear hb1 hb2 hc1 hc2 hJ hJx hY h0 hW
  refine callsIn_of_wp Tryz.func186 rfl trivial ?_ rfl
  simp only [Tryz.ntmps186, List.size_toArray, List.length_cons, List.length_nil, Nat.reduceAdd, Nat.reduceSub, Array.replicate_succ, Array.replicate_zero, List.push_toArray, List.append_toArray, List.nil_append, List.cons_append]
  gi_wp2
  gi_region
  gi_wp2
  gi_loopw [4, 5] (fun sq av wr => ∃ (pre : List RdX), sq = .int .i64 ((q0 + pre.length : Nat) : Int) ∧ av = .int .i64 ((rdEnd a0 pre : Nat) : Int) ∧ rdChain s.data.toList a0 q0 pre ∧ (∀ y ∈ pre, y.e = 0) ∧ J pre wr ∧ wr.heap[c2]? = some (.cells #[.string s] 9 (0, 0)) ∧ rdEnd a0 pre ≤ s.size ∧ a0 + pre.length ≤ rdEnd a0 pre ∧ q0 + pre.length ≤ 1048576) (fun _ av _ => s.size - (intOf av).toNat)
  case atStart => exact ⟨[], rfl, rfl, trivial, by simp, HJ.out _ _ _ H0.out (Fr.refl _ _).drew, HC2.out, ha, by simp [rdEnd], hq⟩
  case round =>
    obtain ⟨pre, rfl, rfl, hch, hall, hJp, hc2, hle, hmo, hqb⟩ := hrel
    have e2 : wr.cell? ⟨c2, 0, none⟩ = some (.string s) := (cell_of_row _ _ _ _ _ _ hc2).trans rfl
    have HCH := Lib.hid hch
    have HALL := Lib.hid hall
    have HJP := Lib.hid hJp
    have HCC := Lib.hid hc2
    obtain ⟨A, hA⟩ : ∃ A, A = rdEnd a0 pre := ⟨_, rfl⟩
    obtain ⟨B, hB⟩ : ∃ B, B = q0 + pre.length := ⟨_, rfl⟩
    rw [← hA] at hle ⊢
    rw [← hB] at hqb ⊢
    have HA := Lib.hid hA
    have HBB := Lib.hid hB
    have hlen : pre.length < N := by omega
    clear hch hall hJp hc2 hA hB m0 m1
    have hmin : min A s.size = A := by omega
    obtain ⟨c, q, pl, hrd⟩ : ∃ c q pl, frRead (s.data.toList.drop A) = (c, q, pl) := ⟨_, _, _, rfl⟩
    have HRD := Lib.hid hrd
    clear hrd
    by_cases hc : c = 0
    · have hlq := frRead_le (t := s.data.toList.drop A) (q := q) (p := pl) (by rw [HRD.out, hc])
      rw [List.length_drop, size_toList] at hlq
      by_cases hqB : q = B
      · subst hc
        subst hqB
        have HONE := Lib.hid (show rdOne s.data.toList A q = (0, pl) from by unfold rdOne; rw [HRD.out]; simp)
        gi_wp2_with fail
        refine ⟨trivial, ?_⟩
        refine (callsIn_wide.2 (frread_any s A _ hle hs)).mono ?_
        rintro e w1 ⟨hb1, p, hp, rfl⟩
        rw [HRD.out] at hp ⊢
        simp only [if_true]
        have hone : rdOne s.data.toList A q = (0, pl) := HONE.out
        have HX : Hid (∀ y : RdX, y = ⟨p, 0⟩ → rdChain s.data.toList a0 q0 (pre ++ [y])) := Lib.hid (fun y e => by subst e; exact rdChain_snoc HCH.out HALL.out (by rw [← HA.out, ← HBB.out, hone]) (by rw [← HA.out, ← HBB.out, hone]; exact hp))
        have hps : p.size = pl.length := size_of_list hp
        have HPS := Lib.hid hps
        have HB1 := Lib.hid hb1
        have hs1 := hb1.size
        have hf3 : Fr (fun _ => False) wr (w1.alloc (.cells #[.int .i64 (q : Int), .string p, .int .i64 (A : Int)] 149)) := (Fr.pure hb1).alloc _
        obtain ⟨fn, tmps, assign, body, hy, hR⟩ := HY.out pre ⟨p, 0⟩ _ (HJ.out _ _ _ HJP.out hf3) hlen
        unfold rdEnc at hy
        dsimp only at hy
        have HF3 := Lib.hid hf3
        clear hp hf3 hb1 hps e2 hone
        gi_wp2
        refine hR.mono ?_
        rintro e W4 (⟨rfl, hJ4, hk4⟩ | ⟨rfl, hJx4⟩)
        · have hc4 : W4.heap[c2]? = some (.cells #[.string s] 9 (0, 0)) := hk4.2.trans (HF3.out.heapAt HCC.out (fun h => h))
          have HC4 := Lib.hid hc4
          have HJ4 := Lib.hid hJ4
          clear hk4 hJ4 hc4 hy hR
          gi_wp2
          have hnx : rdEnd a0 (pre ++ [⟨p, 0⟩]) = A + 16 + pl.length := by rw [rdEnd_snoc, ← HA.out, HPS.out]
          refine ⟨⟨pre ++ [⟨p, 0⟩], ?_, ?_, HX.out _ rfl, ?_, HJ4.out, HC4.out, ?_, ?_, ?_⟩, ?_⟩
          · rw [List.length_append, List.length_singleton, ← Nat.add_assoc, ← HBB.out]; go_num
          · rw [hnx]; go_num
          · intro y hy
            rcases List.mem_append.1 hy with h | h
            · exact HALL.out y h
            · rw [List.mem_singleton.1 h]
          · rw [hnx]; omega
          · rw [hnx, List.length_append, List.length_singleton]; have := HA.out; omega
          · rw [List.length_append, List.length_singleton, ← Nat.add_assoc, ← HBB.out]; omega
          · simp [intOf]; omega
        · gi_wp2
          refine bodyPost_ret (results_none rfl _ _ _) rfl ?_
          exact ⟨⟨_, rfl⟩, .inr ⟨_, HX.out _ rfl, hJx4⟩⟩
      · subst hc
        have HONE := Lib.hid (show rdOne s.data.toList A B = (4, pl) from by unfold rdOne; rw [HRD.out]; simp [hqB])
        have hqe : ((q : Int) == (B : Int)) = false := by rw [beq_eq_false_iff_ne]; omega
        have hqn : ((q : Int) != (B : Int)) = true := by rw [bne_iff_ne]; omega
        gi_wp2_with fail
        refine ⟨trivial, ?_⟩
        refine (callsIn_wide.2 (frread_any s A _ hle hs)).mono ?_
        rintro e w1 ⟨hb1, p, hp, rfl⟩
        rw [HRD.out] at hp ⊢
        simp only [if_true]
        have hone : rdOne s.data.toList A B = (4, pl) := HONE.out
        have HX : Hid (∀ y : RdX, y = ⟨p, 4⟩ → rdChain s.data.toList a0 q0 (pre ++ [y])) := Lib.hid (fun y e => by subst e; exact rdChain_snoc HCH.out HALL.out (by rw [← HA.out, ← HBB.out, hone]) (by rw [← HA.out, ← HBB.out, hone]; exact hp))
        have hps : p.size = pl.length := size_of_list hp
        have HPS := Lib.hid hps
        have HB1 := Lib.hid hb1
        have hs1 := hb1.size
        have hf3 : Fr (fun _ => False) wr (w1.alloc (.cells #[.int .i64 (q : Int), .string p, .int .i64 (A : Int)] 149)) := (Fr.pure hb1).alloc _
        obtain ⟨fn, tmps, assign, body, hy, hR⟩ := HY.out pre ⟨p, 4⟩ _ (HJ.out _ _ _ HJP.out hf3) hlen
        unfold rdEnc at hy
        dsimp only at hy
        have HF3 := Lib.hid hf3
        clear hp hf3 hb1 hps e2 hone
        gi_wp2
        refine hR.mono ?_
        rintro e W4 (⟨rfl, hJ4, hk4⟩ | ⟨rfl, hJx4⟩)
        · gi_wp2
          refine bodyPost_ret (results_none rfl _ _ _) rfl ?_
          exact ⟨⟨_, rfl⟩, .inl ⟨_, ⟨HX.out _ rfl, ⟨p, 4⟩, List.getLast?_concat .., (by simp)⟩, hJ4⟩⟩
        · gi_wp2
          refine bodyPost_ret (results_none rfl _ _ _) rfl ?_
          exact ⟨⟨_, rfl⟩, .inr ⟨_, HX.out _ rfl, hJx4⟩⟩
    · have hce : (c == 0) = false := by simpa using hc
      have hcn : (c != 0) = true := by simpa using hc
      have HONE := Lib.hid (show rdOne s.data.toList A B = (c, pl) from by unfold rdOne; rw [HRD.out]; simp [hc])
      have HC := Lib.hid hc
      gi_wp2_with fail
      refine ⟨trivial, ?_⟩
      refine (callsIn_wide.2 (frread_any s A _ hle hs)).mono ?_
      rintro e w1 ⟨hb1, p, hp, rfl⟩
      rw [HRD.out] at hp ⊢
      simp only [if_neg hc]
      have hone : rdOne s.data.toList A B = (c, pl) := HONE.out
      have HX : Hid (∀ y : RdX, y = ⟨p, c⟩ → rdChain s.data.toList a0 q0 (pre ++ [y])) := Lib.hid (fun y e => by subst e; exact rdChain_snoc HCH.out HALL.out (by rw [← HA.out, ← HBB.out, hone]) (by rw [← HA.out, ← HBB.out, hone]; exact hp))
      have hps : p.size = pl.length := size_of_list hp
      have HPS := Lib.hid hps
      have HB1 := Lib.hid hb1
      have hs1 := hb1.size
      have hf3 : Fr (fun _ => False) wr (w1.alloc (.cells #[.int .i64 (q : Int), .string p, .int .i64 0] 149)) := (Fr.pure hb1).alloc _
      obtain ⟨fn, tmps, assign, body, hy, hR⟩ := HY.out pre ⟨p, c⟩ _ (HJ.out _ _ _ HJP.out hf3) hlen
      unfold rdEnc at hy
      dsimp only at hy
      have HF3 := Lib.hid hf3
      clear hp hf3 hb1 hps e2 hone
      gi_wp2
      refine hR.mono ?_
      rintro e W4 (⟨rfl, hJ4, hk4⟩ | ⟨rfl, hJx4⟩)
      · gi_wp2
        refine bodyPost_ret (results_none rfl _ _ _) rfl ?_
        exact ⟨⟨_, rfl⟩, .inl ⟨_, ⟨HX.out _ rfl, ⟨p, c⟩, List.getLast?_concat .., HC.out⟩, hJ4⟩⟩
      · gi_wp2
        refine bodyPost_ret (results_none rfl _ _ _) rfl ?_
        exact ⟨⟨_, rfl⟩, .inr ⟨_, HX.out _ rfl, hJx4⟩⟩
end Go.Proofs.YtcdjckdbcffgdaaGreatDoor
