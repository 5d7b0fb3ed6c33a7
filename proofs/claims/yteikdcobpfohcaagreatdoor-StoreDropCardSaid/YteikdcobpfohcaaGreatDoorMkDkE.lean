/- The walks of Room and Copy. -/
import Derived.Test.YteikdcobpfohcaaGreatDoorMFk
import Derived.Shelf.SlMaps.Clone
import Derived.Lib.QuietBelow
import Derived.Laws.StructEq
namespace Go.Proofs.YteikdcobpfohcaaGreatDoor
open Go.RowKit Go.Maps Go.Sort

theorem IsDk.len {w : World} {p b : Nat} {st : DkSt} (h : IsDk w p b st) (ty : TypeId) : (Builtin.len_ #[88] ty #[.map (some b)]).run Tryz.prog w = .ok (.int .i64 (st.fs.length : Nat)) w := by
  have := h.own.len (t := 88) Tryz.underlying88 ty
  rw [size_fs] at this; exact this

set_option maxRecDepth 100000 in
set_option maxHeartbeats 1000000 in
theorem clone_files (w : World) (b : Nat) (es : Array MapEntry) (clock : Nat) (hb : w.heap[b]? = some (.map es clock)) :
    Calls Tryz.prog 42 #[.map (some b)] w fun e w' => e = .returned (.map (some w.heap.size)) ∧ w' = w.alloc (.map es clock) := by
  have hq := fun w => run_eql_map_nil_sl (P := Tryz.prog) w 88 _ _ (some b) Tryz.underlying88
  go_enter Tryz.func42, Tryz.ntmps42
  go_wp2
  rw [run_callFunc_extern Tryz.func84 (by kernel_rfl) (by kernel_rfl) (by kernel_rfl) (e := Extern.MapsClone.clone) (by kernel_rfl), run_maps_clone_sl w 88 hb]
  simp only [Result.andThen]
  rw [Oper.upon_value]
  go_wp2
  rw [run_typeAssert_map_sl _ 88 _ _ _ _ Tryz.underlying88]
  simp only [Result.andThen]
  rw [Oper.upon_value]
  go_wp2
  go_ret
  exact ⟨rfl, rfl⟩

/-- A disk of its own, alike. -/
def CopyPost (st : DkSt) (w : World) (e : Ending) (w' : World) : Prop := Below w.heap.size w w' ∧ ∃ q c, w.heap.size ≤ q ∧ w.heap.size ≤ c ∧ e = .returned (.pointer (some ⟨q, 0, none⟩)) ∧ IsDk w' q c st

set_option maxRecDepth 100000 in
set_option maxHeartbeats 1000000 in
theorem dk_copy (w : World) (p b : Nat) (st : DkSt) (h : IsDk w p b st) :
    Calls Tryz.prog 18 #[.pointer (some ⟨p, 0, none⟩)] w fun e w' => CopyPost st w e w' := by
  have H := Lib.hid h
  have hp := h.lt
  have hbl := h.own.lt
  obtain ⟨c0, c1, c2, c3⟩ := h.cs
  clear h
  go_enter Tryz.func18, Tryz.ntmps18
  go_wp2_with fail
  have c0' : (w.alloc (.cells #[.map (some b), .int .i64 st.cap, .int .i64 st.left, .bool st.dark] 90)).cell? ⟨p, 0, none⟩ = some (.map (some b)) := by rw [World.cell?_alloc_past _ _ _ hp]; exact c0
  obtain ⟨es, clock, hb, F, hs, hD⟩ := H.out.own
  have HB := Lib.hid (And.intro hb (And.intro F (And.intro hs hD)))
  clear hb F hs hD
  refine (clone_files _ b es clock ((Below.heap_alloc _ _ _ hbl).trans HB.out.1)).mono ?_
  rintro e w2 ⟨rfl, rfl⟩
  go_wp2
  go_ret
  refine ⟨((Below.refl _ _).alloc (Nat.le_refl _) _).alloc (by simp) _, w.heap.size, w.heap.size + 1, Nat.le_refl _, by omega, rfl, ?_, ?_, H.out.ok⟩
  · exact (Below.heap_alloc _ _ _ (by simp)).trans (alloc_at_top _ _ rfl)
  · exact ⟨es, clock, alloc_at_top _ _ (by simp), HB.out.2.1, HB.out.2.2.1, HB.out.2.2.2⟩
end Go.Proofs.YteikdcobpfohcaaGreatDoor
