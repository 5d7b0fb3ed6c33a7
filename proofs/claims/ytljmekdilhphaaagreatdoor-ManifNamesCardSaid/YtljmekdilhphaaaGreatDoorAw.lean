/- The walk of the laws' example, and of awake. -/
import Derived.Test.YtljmekdilhphaaaGreatDoorAwP
import Derived.Deep.RegionWith
namespace Go.Proofs.YtljmekdilhphaaaGreatDoor
open Go.RowKit Go.Sort Go.Maps

set_option maxRecDepth 100000 in
set_option maxHeartbeats 1000000 in
theorem example_any (w : World) : Calls Tryz.prog 43 #[] w fun e w' => ∃ sv, e = .returned (.agg #[.int .i64 2, sv]) ∧ SegsAt w' sv exL ∧ Below w.heap.size w w' := by
  go_enter Tryz.func43, Tryz.ntmps43
  go_wp2
  have hcell : ∀ j u, (#[Value.int IntKind.i64 1, .int .i64 0, .int .i64 2, .int .i64 7] : Array Value)[j]? = some u → ((w.alloc (.cells #[.int .i64 2, .slice (some ⟨w.heap.size + 1, 0, none⟩) 2 2] 32)).alloc (.cells #[.int .i64 1, .int .i64 0, .int .i64 2, .int .i64 7] 72)).cell? ⟨w.heap.size + 1, j, none⟩ = some u := fun j u h => by rw [World.cell?_alloc_at _ _ _ _ (by simp)]; exact h
  refine bodyPost_ret (v := .agg #[.int .i64 2, .slice (some ⟨w.heap.size + 1, 0, none⟩) 2 2]) ?_ rfl ⟨_, rfl, ⟨_, 2, rfl, .inr ⟨w.heap.size + 1, 0, rfl, ?_⟩⟩, ((Below.refl _ _).alloc (Nat.le_refl _) _).alloc (by simp) _⟩
  · have c0 : ((w.alloc (.cells #[.int .i64 2, .slice (some ⟨w.heap.size + 1, 0, none⟩) 2 2] 32)).alloc (.cells #[.int .i64 1, .int .i64 0, .int .i64 2, .int .i64 7] 72)).cell? ⟨w.heap.size, 0, none⟩ = some (.int .i64 2) := by rw [World.cell?_alloc_past _ _ _ (by simp), World.cell?_alloc_at _ _ _ _ rfl]; rfl
    have c1 : ((w.alloc (.cells #[.int .i64 2, .slice (some ⟨w.heap.size + 1, 0, none⟩) 2 2] 32)).alloc (.cells #[.int .i64 1, .int .i64 0, .int .i64 2, .int .i64 7] 72)).cell? ⟨w.heap.size, 1, none⟩ = some (.slice (some ⟨w.heap.size + 1, 0, none⟩) 2 2) := by rw [World.cell?_alloc_past _ _ _ (by simp), World.cell?_alloc_at _ _ _ _ rfl]; rfl
    simp [results, Tryz.results43, go_sem, c0, c1]
  · intro i hi
    match i, hi with
    | 0, _ => exact ⟨hcell 0 _ rfl, hcell 1 _ rfl⟩
    | 1, _ => exact ⟨hcell 2 _ rfl, hcell 3 _ rfl⟩

/-- Make's bytes of the example. -/
theorem make_ex (w : World) (sv : Value) (hs : SegsAt w sv exL) : Calls Tryz.prog 11 #[.agg #[.int .i64 2, sv]] w fun e w' => ∃ r : ByteArray, r.data.toList = exS ∧ e = .returned (.tuple #[.string r, .int .i64 0]) ∧ Below w.heap.size w w' :=
  make_ok w 2 sv exL hs ex_may

theorem sealed_seal (l : List UInt8) : Sealed (Crc.seal_ l) := by
  refine ⟨by rw [Crc.seal_length]; omega, ?_⟩
  rw [Crc.seal_length, show l.length + 4 - 4 = l.length from by omega]
  unfold Crc.seal_
  rw [List.take_left']
  rfl
theorem read_seal (w : World) (s : ByteArray) (g : Int) (l : Segs) (hs : s.data.toList = Crc.seal_ (manBytes g l)) (hm : mayB g l = true) :
    Calls Tryz.prog 13 #[.string s] w fun e w' => Below w.heap.size w w' ∧ ∃ v, OwnSegs w' v l ∧ (∀ b, v.ownBlock = some b → w.heap.size ≤ b) ∧ e = .returned (.tuple #[.agg #[.int .i64 g, v], .int .i64 0]) := by
  obtain ⟨_, _, _, hl1, _⟩ := mayB_all hm
  have hsz : s.size = 18 + 16 * l.length := by rw [size_of_list hs, Crc.seal_length, manBytes_length]; omega
  refine (read_any s w (by omega) (by rw [hs]; exact sealed_seal _) (manBytes g l) (by rw [hs, hsz]; unfold Crc.seal_; rw [List.take_left']; rw [manBytes_length]; omega)).mono ?_
  intro e w' h
  unfold ReadPost at h
  rw [parse_make hm] at h
  exact h

end Go.Proofs.YtljmekdilhphaaaGreatDoor
