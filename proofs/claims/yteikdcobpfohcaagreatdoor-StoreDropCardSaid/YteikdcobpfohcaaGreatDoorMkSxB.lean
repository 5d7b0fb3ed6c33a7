/- The walks of state.named, and of what it asks, where there are none. -/
import Derived.Test.YteikdcobpfohcaaGreatDoorMkSxA
import Derived.Test.YteikdcobpfohcaaGreatDoorShelf
namespace Go.Proofs.YteikdcobpfohcaaGreatDoor
open Go.RowKit Go.Sort Go.Shelf

theorem sort_string0 (w : World) : Calls Tryz.prog 122 #[.slice none 0 0] w fun e w' => e = .returned (.tuple #[]) ∧ w' = w :=
  AnyM.slices_Sort_string_none Tryz.laysSlM6_f122 none 0 w
set_option maxHeartbeats 400000 in
theorem compact_string0 (w : World) : Calls Tryz.prog 305 #[.slice none 0 0] w fun e w' => e = .returned (.slice none 0 0) ∧ w = w' := by
  go_enter Tryz.func305, Tryz.ntmps305
  go_wp2
  go_ret
  exact ⟨rfl, rfl⟩
set_option maxHeartbeats 400000 in
theorem clone_string0 (w : World) : Calls Tryz.prog 306 #[.slice none 0 0] w fun e w' => e = .returned (.slice none 0 0) ∧ w = w' := by
  have hq : ∀ w, (binOp .eql 23 (.slice none 0 0) (.slice none 0 0)).run Tryz.prog w = .ok (.bool true) w := fun w => by have := Lib.run_eql_slice_nil (P := Tryz.prog) w 23 _ none 0 0 0 0 Tryz.underlying23; exact this
  go_enter Tryz.func306, Tryz.ntmps306
  go_wp2
  go_ret
  exact ⟨rfl, rfl⟩
set_option maxHeartbeats 1000000 in
theorem named0 (w : World) : Calls Tryz.prog 271 #[.slice none 0 0] w fun e w' => e = .returned (.bool true) ∧ w = w' := by
  have hmf : ∀ (fn : Fn) (first cap : Array Value) (w : World), (Instr.makeFunc fn first cap).run Tryz.prog w = .ok (.func fn first cap) w := fun _ _ _ _ => rfl
  go_enter Tryz.func271, Tryz.ntmps271
  go_wp2_with fail
  refine (contains_string0 w _).mono ?_
  rintro e w1 ⟨rfl, rfl⟩
  go_wp2_with fail
  refine (sort_string0 w).mono ?_
  rintro e w1 ⟨rfl, rfl⟩
  go_wp2_with fail
  refine (clone_string0 _).mono ?_
  rintro e w1 ⟨rfl, rfl⟩
  go_wp2_with fail
  refine (compact_string0 _).mono ?_
  rintro e w1 ⟨rfl, rfl⟩
  go_wp2
  go_ret
  exact ⟨rfl, rfl⟩
end Go.Proofs.YteikdcobpfohcaaGreatDoor
