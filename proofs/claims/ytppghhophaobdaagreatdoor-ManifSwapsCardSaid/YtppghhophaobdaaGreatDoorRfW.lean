/- The walks of soukref02: fixed numbers. -/
import Derived.Test.YtppghhophaobdaaGreatDoorWr
import Derived.Test.YtppghhophaobdaaGreatDoorRfC
namespace Go.Proofs.YtppghhophaobdaaGreatDoor
open Go.RowKit Go.Sort

theorem be_one (n : Nat) : [UInt8.ofNat (n % 256)].map u8v = [Value.int .u8 ((n : Int) % 256)] := by
  simp only [List.map_cons, List.map_nil, u8v_ofNat]; rfl

theorem rf_cell {W w1 : World} (hb : Below W.heap.size W w1) : ∀ b o, b < W.heap.size → w1.cell? ⟨b, o, none⟩ = W.cell? ⟨b, o, none⟩ :=
  fun b o h => hb.cell (p := ⟨b, o, none⟩) h

set_option maxRecDepth 100000 in
set_option maxHeartbeats 1600000 in
theorem rf_fixed (k : Nat) : ∀ (n : Nat) (w : World), n < 18446744073709551616 → k ≤ 1000 →
    Calls Tryz.prog 132 #[.int .u64 (n : Int), .int .i64 (k : Int)] w fun e w' => e = .returned (.string ⟨(be k n).toArray⟩) ∧ Below w.heap.size w w' := by
  induction k with
  | zero =>
    intro n w hn _
    go_enter Tryz.func132, Tryz.ntmps132
    go_wp2
    go_ret
    exact ⟨rfl, Below.refl _ _⟩
  | succ k ih =>
    intro n w hn hk
    have IH := Lib.hid ih
    clear ih
    have hk0 : (0 : Int) < ((k + 1 : Nat) : Int) := by omega
    have hk1 : ((k : Nat) : Int) ≤ 1000 := by omega
    have hkw : IntKind.i64.wrap ((k : Int) + 1 - 1) = (k : Int) := by rw [IntWalk.i64_in _ (by omega)]; omega
    have hkw2 : IntKind.i64.wrap (((k + 1 : Nat) : Int) - 1) = (k : Int) := by rw [IntWalk.i64_in _ (by omega)]; omega
    go_enter Tryz.func132, Tryz.ntmps132
    go_wp2_with fail
    have hconv : ∀ (W : World) (b : Nat), W.cell? ⟨b, 0, none⟩ = some (.int .u8 ((n : Int) % 256)) → (convert 149 9 (.slice (some ⟨b, 0, none⟩) 1 1)).run Tryz.prog W = .ok (.string ⟨[UInt8.ofNat (n % 256)].toArray⟩) W := fun W b hc =>
      conv_bytes (P := Tryz.prog) W 149 9 5 Tryz.underlying149 Tryz.underlying5 Tryz.underlying9 b 0 1 1 [UInt8.ofNat (n % 256)] rfl (fun i h => by
        obtain rfl : i = 0 := by simp at h; omega
        rw [Nat.zero_add, hc]
        have := u8v_ofNat n
        simp only [List.getElem_cons_zero]
        rw [this]; rfl)
    obtain ⟨x, hx, hxe⟩ := str_ex [UInt8.ofNat (n % 256)]
    rw [hxe] at hconv
    have hxs : x.size ≤ 1 := by rw [size_of_list hx]; exact Nat.le_refl _
    have HX := Lib.hid hx
    clear hx hxe
    obtain ⟨q, hq, hqe⟩ := str_ex (be k (n / 256))
    have hqs : q.size ≤ 1000 := by rw [size_of_list hq, be_length]; omega
    have HQ := Lib.hid hq
    have HQE := Lib.hid hqe
    clear hq hqe
    have HC := Lib.hid (show ∀ w : World, Calls Tryz.prog 132 #[.int .u64 ((n : Int) / 256), .int .i64 (k : Int)] w fun e w' => e = .returned (.string q) ∧ Below w.heap.size w w' from fun w => by
      rw [← HQE.out]; exact IH.out (n / 256) w (by omega) (by omega))
    have e1 : IntKind.u64.wrap ((n : Int) / 256) = (n : Int) / 256 := IntWalk.u64_in _ (by omega)
    have e2 : IntKind.i64.wrap ((k : Nat) : Int) = (k : Int) := IntWalk.i64_in _ (by omega)
    have e3 : IntKind.u8.wrap (((n : Int)).tmod 256) = (n : Int) % 256 := by rw [Int.tmod_eq_emod_of_nonneg (by omega)]; show _ % 256 = _; omega
    go_region_with ((go_at_call 132; refine (HC.out _).mono ?_; rintro e w1 ⟨rfl, hb1⟩; have hcl1 := rf_cell hb1))
    all_goals
      go_wp2
      go_ret
      refine ⟨?_, ?_⟩
      · exact ret_str (by rw [append_toList, HQ.out, HX.out]; rfl)
      · first
          | exact ((Below.refl _ _).drew.trans hb1).alloc (by have := hb1.size; simpa using this) _
          | exact ((((Below.refl w.heap.size w).drew).alloc (Nat.le_refl _) _)).trans (hb1.mono (by simp))
end Go.Proofs.YtppghhophaobdaaGreatDoor
