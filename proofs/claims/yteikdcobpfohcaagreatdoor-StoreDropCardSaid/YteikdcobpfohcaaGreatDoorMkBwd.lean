/- The walk of slices.Backward at numbers, and of its iterator. -/
import Derived.RangeFuncBound
import Derived.RangeFuncCalls
import Derived.Shelf.Abstract
import Derived.Shelf.RegionOpen
import Derived.OwnWalkIn
import Derived.TacticsInMore
import Derived.LoopNIn
import Derived.LoopIn
import Derived.BigRegionIn
import Derived.Sort.CutIn
import Derived.Test.YteikdcobpfohcaaGreatDoorMkRg2
import Derived.Test.YteikdcobpfohcaaGreatDoorMFk
namespace Go.Proofs.YteikdcobpfohcaaGreatDoor
open Go.RowKit Go.Shelf
attribute [local go_sem] Oper.semAt_some

theorem backward_any (a : Option Addr) (n c : Nat) (w : World) :
    Calls Tryz.prog 62 #[.slice a n c] w fun e w' => e = .returned (.func (.func 99) #[] #[.pointer (some ⟨w.heap.size, 0, none⟩)]) ∧ w' = w.alloc (.cells #[.slice a n c] 26) := by
  have hmf : ∀ (fn : Fn) (first cap : Array Value) (w : World), (Instr.makeFunc fn first cap).run Tryz.prog w = .ok (.func fn first cap) w := fun _ _ _ _ => rfl
  go_enter Tryz.func62, Tryz.ntmps62
  go_wp2
  go_ret
  exact ⟨rfl, rfl⟩

/-- What comes, the last one first: each number, and its place. -/
def bwL (ns : List Nat) : List (Nat × Nat) := ns.zipIdx.reverse
theorem bwL_len (ns : List Nat) : (bwL ns).length = ns.length := by unfold bwL; simp
theorem bwL_get (ns : List Nat) (k : Nat) (h : k < ns.length) : (bwL ns)[k]? = some (ns[ns.length - 1 - k]'(by omega), ns.length - 1 - k) := by
  show (ns.zipIdx.reverse)[k]? = _
  rw [List.getElem?_reverse (by simpa using h)]
  simp
theorem bwL_step (ns : List Nat) (k : Nat) (h : k < ns.length) : (bwL ns).take (k + 1) = (bwL ns).take k ++ [(ns[ns.length - 1 - k]'(by omega), ns.length - 1 - k)] := by
  rw [List.take_add_one, bwL_get ns k h]; rfl
def bwEnc (x : Nat × Nat) : Array Value := #[.int .i64 (x.2 : Int), .int .i64 (x.1 : Int)]

set_option maxRecDepth 100000 in
set_option maxHeartbeats 4000000 in
theorem bw_seq (w : World) (T : Nat → Prop) (sB : Nat) (a : Option Addr) (c : Nat) (ns : List Nat) (hs : w.heap[sB]? = some (.cells #[.slice a ns.length c] 26 (0, 0)))
    (hrow : ∀ i (hi : i < ns.length), ∃ g, a = some ⟨g, 0, none⟩ ∧ w.cell? ⟨g, i, none⟩ = some (.int .i64 (ns[i] : Int))) (hl : ns.length ≤ 64) (hT : ¬ T sB) (hTg : ns.length ≠ 0 → ∀ g, a = some ⟨g, 0, none⟩ → ¬ T g) :
    SeqOwnX (fun x => x.1 ∈ ns) Fence.wide 4 Tryz.prog 99 #[.pointer (some ⟨sB, 0, none⟩)] bwEnc (fun _ => False) (fun A B => Fr T A B) (fun _ _ => True) (fun xs => xs = bwL ns) (fun pre => ∃ k, k < ns.length ∧ pre = (bwL ns).take (k + 1)) ns.length w := by
  intro y J Jx W hW _ hJ hJx hY h0
  have HS := Lib.hid ((hW.block _ (lt_of_block hs)).trans hs)
  have HR := Lib.hid (fun i (hi : i < ns.length) => by
    obtain ⟨g, h1, h2⟩ := hrow i hi
    exact (⟨g, h1, (hW.cell (p := ⟨g, i, none⟩) (ltOfCell h2)).trans h2⟩ : ∃ g, a = some ⟨g, 0, none⟩ ∧ W.cell? ⟨g, i, none⟩ = some (.int .i64 (ns[i] : Int))))
  have HJ := Lib.hid hJ
  have HY := Lib.hid hY
  have HH := Lib.hid h0
  have HT := Lib.hid hT
  have HTG := Lib.hid hTg
  clear hW hs hrow hJ hJx hY h0 hT hTg
  have c0 : W.cell? ⟨sB, 0, none⟩ = some (.slice a ns.length c) := (cell_of_row _ _ _ _ _ _ HS.out).trans rfl
  refine callsIn_of_wp Tryz.func99 rfl trivial ?_ rfl
  simp only [Tryz.ntmps99, List.size_toArray, List.length_cons, List.length_nil, Nat.reduceAdd, Nat.reduceSub, Array.replicate_succ, Array.replicate_zero, List.push_toArray, List.append_toArray, List.nil_append, List.cons_append]
  gi_wp2
  gi_loopw [3] (fun i wr => ∃ k : Nat, k ≤ ns.length ∧ i = .int .i64 ((ns.length : Int) - 1 - (k : Int)) ∧ Hid (J ((bwL ns).take k) wr) ∧ Hid (Fr T W wr)) (fun i _ => (intOf i + 1).toNat)
  case atStart => exact ⟨0, by omega, by go_num, Lib.hid HH.out, Lib.hid (Fr.refl _ _)⟩
  case round =>
    obtain ⟨k, hk, rfl, HJK, HF⟩ := hrel
    have d0 := HF.out.cellAt c0 HT.out
    by_cases hlt : k < ns.length
    · obtain ⟨j, hj⟩ : ∃ j, j = ns.length - 1 - k := ⟨_, rfl⟩
      have hjl : j < ns.length := by omega
      obtain ⟨g, hg, hc⟩ := HR.out j hjl
      subst hg
      have d1 := HF.out.cellAt hc (HTG.out (by omega) g rfl)
      have HST := Lib.hid (show (bwL ns).take (k + 1) = (bwL ns).take k ++ [(ns[j]'hjl, j)] from by subst hj; exact bwL_step ns k hlt)
      have hji : (ns.length : Int) - 1 - (k : Int) = (j : Int) := by omega
      obtain ⟨fn, tmps, assign, body, hy, hR⟩ := HY.out ((bwL ns).take k) (ns[j]'hjl, j) wr (List.getElem_mem hjl) HJK.out (by rw [List.length_take, bwL_len]; omega)
      unfold bwEnc at hy
      dsimp only at hy
      rw [hji]
      clear hj
      gi_wp2_with fail
      refine hR.mono ?_
      rintro e W4 (⟨rfl, hJ4, hk4⟩ | ⟨rfl, hJx4, _⟩)
      · have HJ4 := Lib.hid (show J ((bwL ns).take (k + 1)) W4 from by rw [HST.out]; exact hJ4)
        have HF4 := Lib.hid (HF.out.trans hk4)
        clear hJ4 hk4 hy hR
        gi_wp2
        refine ⟨⟨k + 1, by omega, ?_, HJ4, HF4⟩, ?_⟩
        · go_num
        · simp [intOf] <;> omega
      · have HX := Lib.hid (show Jx ((bwL ns).take (k + 1)) W4 from by rw [HST.out]; exact hJx4)
        clear hJx4 hy hR
        gi_wp2
        refine bodyPost_ret (results_none rfl _ _ _) rfl ?_
        exact ⟨⟨_, rfl⟩, .inr ⟨_, ⟨k, hlt, rfl⟩, HX.out⟩⟩
    · have hke : k = ns.length := by omega
      have HJE := Lib.hid (show J (bwL ns) wr from by have := HJK.out; rwa [List.take_of_length_le (by rw [bwL_len]; omega)] at this)
      gi_wp2
      go_end0
      exact ⟨⟨_, rfl⟩, .inl ⟨_, rfl, HJE.out⟩⟩
end Go.Proofs.YteikdcobpfohcaaGreatDoor
