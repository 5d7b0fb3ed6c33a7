/- The walks of many and kept. -/
import Derived.Test.YtljmekdilhphaaaGreatDoorDk12
import Derived.Test.YtljmekdilhphaaaGreatDoorWhP
namespace Go.Proofs.YtljmekdilhphaaaGreatDoor
open Go.RowKit Go.Maps Go.Sort

def AnyBool (w : World) (e : Ending) (w' : World) : Prop := (∃ bo, e = .returned (.bool bo)) ∧ Below w.heap.size w w'
theorem below_drewN (w : World) (q : Nat) : Below w.heap.size w (w.drewN q) := ⟨rfl, rfl, rfl, Nat.le_refl _, fun _ _ => rfl⟩

set_option maxRecDepth 100000 in
set_option maxHeartbeats 2000000 in
theorem many_any (w : World) (sv : Value) (l : Fs) (hl : FilesAt w sv l) (hlen : l.length ≤ 4398046511104) :
    Calls Tryz.prog 17 #[sv] w fun e w' => AnyBool w e w' := by
  obtain ⟨a, c, rfl⟩ := hl.shape
  have HS := Lib.hid hl
  clear hl
  go_enter Tryz.func17, Tryz.ntmps17
  go_wp2
  go_loopw [3, 4] (fun n i wr => ∃ (k : Nat) (m : Int), i = .int .i64 k ∧ k ≤ l.length ∧ n = .int .i64 m ∧ 0 ≤ m ∧ m ≤ 100000 ∧ ∃ q, wr = w.drewN q) (fun _ i _ => l.length - (intOf i).toNat)
  case atStart => exact ⟨0, 0, rfl, by omega, rfl, by omega, by omega, 0, rfl⟩
  case round =>
    obtain ⟨k, m, rfl, hk, rfl, hm0, hm1, q, rfl⟩ := hrel
    have hb : Below w.heap.size w (w.drewN q) := below_drewN w q
    by_cases hlt : k < l.length
    · by_cases hm : m ≤ 20000
      · obtain ⟨b, o, rfl, hbl, x, y, z, e1, e2, e3, h1, h2, h3⟩ := HS.out.at k hlt
        clear e1 e2 e3
        go_wp2
        go_quiet (fail)
        go_wp2
        go_roundw
        case rel => exact ⟨k + 1, _, by go_num, by omega, rfl, by omega, by omega, _, rfl⟩
        case measure => simp [intOf]; omega
      · go_wp2
        go_ret
        exact ⟨⟨_, rfl⟩, hb⟩
    · go_wp2
      go_ret
      exact ⟨⟨_, rfl⟩, hb⟩

set_option maxRecDepth 100000 in
set_option maxHeartbeats 2000000 in
theorem kept_any (w : World) (x y z x2 y2 z2 : ByteArray) (f f2 : FileS) (hx : x.data.toList = f.name) (hy : y.data.toList = f.firm) (hz : z.data.toList = f.pend) (hx2 : x2.data.toList = f2.name) (hy2 : y2.data.toList = f2.firm) (hz2 : z2.data.toList = f2.pend)
    (hk : KeptOf f f2) (hs : f2.firm.length + f2.pend.length ≤ 1048576) :
    Calls Tryz.prog 33 #[.agg #[.string x, .string y, .string z], .agg #[.string x2, .string y2, .string z2]] w fun e w' => e = .returned (.bool true) ∧ Below w.heap.size w w' := by
  obtain ⟨k1, k2, k, k3, k4⟩ := hk
  have g1 : (x.toList == x2.toList) = true := by rw [ByteArray.toList_eq, ByteArray.toList_eq, hx, hx2, k1]; simp
  have g2 : z.toList.isEmpty = true := by rw [ByteArray.toList_eq, hz, k2]; rfl
  have g3 : y2.size ≤ y.size := by rw [size_of_list hy, size_of_list hy2, k4, List.length_append]; omega
  have g4 : y.size ≤ y2.size + z2.size := by rw [size_of_list hy, size_of_list hy2, size_of_list hz2, k4, List.length_append, List.length_take]; omega
  have g5 : y2.size + z2.size ≤ 1048576 := by rw [size_of_list hy2, size_of_list hz2]; omega
  have g6 : (y.toList == ((y2 ++ z2).extract 0 y.size).toList) = true := by
    rw [ByteArray.toList_eq, ByteArray.toList_eq, cut_list, bytes_append, size_of_list hy, hy, hy2, hz2, k4]
    have e : (f2.firm ++ f2.pend).take (f2.firm ++ f2.pend.take k).length = f2.firm ++ f2.pend.take k := by
      rw [List.length_append, List.length_take, Nat.min_eq_left k3, List.take_append, List.take_of_length_le (by omega)]
      simp
    simp only [List.drop_zero, Nat.sub_zero, e]
    simp
  have g7 : decide ((y.size : Int) ≤ (y2.size : Int) + (z2.size : Int)) = true := by simp; omega
  clear hx hy hz hx2 hy2 hz2 k1 k2 k3 k4 hs
  go_enter Tryz.func33, Tryz.ntmps33
  go_wp2
  have hb := box2_below w (.cells #[.string x, .string y, .string z] 68) (.cells #[.string x2, .string y2, .string z2] 68)
  have b0 : ∀ j, ((w.alloc (.cells #[.string x, .string y, .string z] 68)).alloc (.cells #[.string x2, .string y2, .string z2] 68)).cell? ⟨w.heap.size, j, none⟩ = (#[.string x, .string y, .string z] : Array Value)[j]? := fun j => by rw [World.cell?_alloc_past _ _ _ (by simp), World.cell?_alloc_at _ _ _ _ rfl]
  have d0 : ∀ j, ((w.alloc (.cells #[.string x, .string y, .string z] 68)).alloc (.cells #[.string x2, .string y2, .string z2] 68)).cell? ⟨w.heap.size + 1, j, none⟩ = (#[.string x2, .string y2, .string z2] : Array Value)[j]? := fun j => by rw [World.cell?_alloc_at _ _ _ _ (by simp)]
  generalize ((w.alloc (.cells #[.string x, .string y, .string z] 68)).alloc (.cells #[.string x2, .string y2, .string z2] 68)) = w1 at *
  have c1 : w1.cell? ⟨w.heap.size, 1, none⟩ = some (.string y) := b0 1
  have c2 : w1.cell? ⟨w.heap.size, 2, none⟩ = some (.string z) := b0 2
  have d1 : w1.cell? ⟨w.heap.size + 1, 1, none⟩ = some (.string y2) := d0 1
  have d2 : w1.cell? ⟨w.heap.size + 1, 0, none⟩ = some (.string x2) := d0 0
  have c0 : w1.cell? ⟨w.heap.size, 0, none⟩ = some (.string x) := b0 0
  have HB := Lib.hid hb
  clear b0 d0 hb
  go_quiet (fail)
  go_wp2
  go_ret
  exact ⟨rfl, HB.out.trans ((below_drewN _ _).mono HB.out.size)⟩

end Go.Proofs.YtljmekdilhphaaaGreatDoor
