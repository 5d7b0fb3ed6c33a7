/- The walks of many and kept. -/
import Derived.Test.YteikdcobpfohcaaGreatDoorMFk
namespace Go.Proofs.YteikdcobpfohcaaGreatDoor
open Go.RowKit Go.Maps Go.Sort

def AnyBool (w : World) (e : Ending) (w' : World) : Prop := (∃ bo, e = .returned (.bool bo)) ∧ Below w.heap.size w w'
theorem below_drewN (w : World) (q : Nat) : Below w.heap.size w (w.drewN q) := ⟨rfl, rfl, rfl, Nat.le_refl _, fun _ _ => rfl⟩

set_option maxRecDepth 100000 in
set_option maxHeartbeats 2000000 in
theorem many_any (w : World) (sv : Value) (l : Fs) (hl : FilesAt w sv l) (hlen : l.length ≤ 4398046511104) :
    Calls Tryz.prog 15 #[sv] w fun e w' => AnyBool w e w' := by
  obtain ⟨a, c, rfl⟩ := hl.shape
  have HS := Lib.hid hl
  clear hl
  go_enter Tryz.func15, Tryz.ntmps15
  go_wp2
  go_loopw [3, 4] (fun n i wr => ∃ (k : Nat) (m : Int), i = .int .i64 k ∧ k ≤ l.length ∧ n = .int .i64 m ∧ 0 ≤ m ∧ m ≤ 300000 ∧ ∃ q, wr = w.drewN q) (fun _ i _ => l.length - (intOf i).toNat)
  case atStart => exact ⟨0, 0, rfl, by omega, rfl, by omega, by omega, 0, rfl⟩
  case round =>
    obtain ⟨k, m, rfl, hk, rfl, hm0, hm1, q, rfl⟩ := hrel
    have hb : Below w.heap.size w (w.drewN q) := below_drewN w q
    by_cases hlt : k < l.length
    · by_cases hm : m ≤ 30000
      · obtain ⟨b, o, rfl, hbl, x, y, z, e1, e2, e3, h1, h2, h3⟩ := HS.out.at k hlt
        clear e1 e2 e3
        go_wp2
        go_quiet (fail)
        go_wp2
        go_roundw
        case rel => exact ⟨k + 1, _, by go_num, by omega, rfl, by omega, by omega, _, rfl⟩
        case measure => simp [intOf]; omega
      · go_wp2
        go_ret
        exact ⟨⟨_, rfl⟩, hb⟩
    · go_wp2
      go_ret
      exact ⟨⟨_, rfl⟩, hb⟩
end Go.Proofs.YteikdcobpfohcaaGreatDoor
