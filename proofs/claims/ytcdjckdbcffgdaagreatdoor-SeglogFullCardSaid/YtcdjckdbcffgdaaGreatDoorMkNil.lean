/- What a disk that is nobody's tells: find, Read, Delete, manif.Load; and New. -/
import Derived.Test.YtcdjckdbcffgdaaGreatDoorMAl
namespace Go.Proofs.YtcdjckdbcffgdaaGreatDoor
open Go.RowKit Go.Maps Go.Sort

set_option maxRecDepth 100000 in
set_option maxHeartbeats 1000000 in
theorem find_nil (w : World) (n : ByteArray) :
    Calls Tryz.prog 72 #[.pointer none, .string n] w fun e w' => e = .returned (.tuple #[.agg #[.string ⟨#[]⟩, .string ⟨#[]⟩], .int .i64 2]) ∧ Below w.heap.size w w' := by
  go_enter Tryz.func72, Tryz.ntmps72
  go_wp2_with fail
  refine (dk_down_nil _).mono ?_
  rintro e w1 ⟨rfl, rfl⟩
  go_wp2
  exact bodyPost_ret (v := .tuple #[.agg #[.string ⟨#[]⟩, .string ⟨#[]⟩], .int .i64 2]) (by simp [results, Tryz.results72, go_sem]) rfl ⟨rfl, (Below.refl _ _).alloc (Nat.le_refl _) _⟩

set_option maxRecDepth 100000 in
set_option maxHeartbeats 1000000 in
theorem delete_nil (w : World) (n : ByteArray) :
    Calls Tryz.prog 30 #[.pointer none, .string n] w fun e w' => e = .returned (.int .i64 2) ∧ Below w.heap.size w w' := by
  go_enter Tryz.func30, Tryz.ntmps30
  go_wp2_with fail
  refine (find_nil _ n).mono ?_
  rintro e w1 ⟨rfl, hb1⟩
  have B1 := Lib.hid (box2_fr w _ _ hb1)
  clear hb1
  go_wp2
  go_ret
  exact ⟨rfl, B1.out.alloc B1.out.size _⟩

set_option maxRecDepth 100000 in
set_option maxHeartbeats 1000000 in
theorem read_nil (w : World) (n : ByteArray) :
    Calls Tryz.prog 117 #[.pointer none, .string n] w fun e w' => e = .returned (.tuple #[.string ⟨#[]⟩, .int .i64 2]) ∧ Below w.heap.size w w' := by
  go_enter Tryz.func117, Tryz.ntmps117
  go_wp2_with fail
  refine (find_nil _ n).mono ?_
  rintro e w1 ⟨rfl, hb1⟩
  have B1 := Lib.hid hb1
  clear hb1
  go_wp2
  exact bodyPost_ret (v := .tuple #[.string ⟨#[]⟩, .int .i64 2]) (by simp [results, Tryz.results117, go_sem]; rfl) rfl ⟨rfl, B1.out.alloc B1.out.size _⟩

set_option maxRecDepth 100000 in
set_option maxHeartbeats 1000000 in
theorem load_nil (w : World) :
    Calls Tryz.prog 63 #[.pointer none] w fun e w' => e = .returned (.tuple #[noMan, .int .i64 2]) ∧ Below w.heap.size w w' := by
  go_enter Tryz.func63, Tryz.ntmps63
  go_wp2_with fail
  refine (read_nil _ ⟨#[77, 65, 78, 73, 70, 69, 83, 84]⟩).mono ?_
  rintro e w1 ⟨rfl, hb1⟩
  have B1 := Lib.hid ((((Below.refl w.heap.size w).alloc (Nat.le_refl _) _)).trans (hb1.mono (by simp)))
  have hbox : w1.heap[w.heap.size]? = some (.cells #[.int .i64 0, .slice none 0 0] 38 (0, 0)) := (hb1.block _ (by simp)).trans (alloc_at_top _ _ rfl)
  have c0 : w1.cell? ⟨w.heap.size, 0, none⟩ = some (.int .i64 0) := by rw [cell_of_row _ _ _ _ _ _ hbox]; rfl
  have c1 : w1.cell? ⟨w.heap.size, 1, none⟩ = some (.slice none 0 0) := by rw [cell_of_row _ _ _ _ _ _ hbox]; rfl
  have z : ∀ j : Nat, w1.frozen? ⟨w.heap.size, j, none⟩ = false := fun j => frozen_of_row _ _ _ _ _ hbox
  clear hb1 hbox
  go_wp2
  refine bodyPost_ret (v := .tuple #[noMan, .int .i64 2]) (by simp [results, Tryz.results63, go_sem, c0, c1]; rfl) rfl ⟨rfl, ?_⟩
  exact (B1.out.setCell (p := ⟨w.heap.size, 0, none⟩) (Nat.le_refl _) _).setCell (p := ⟨w.heap.size, 1, none⟩) (Nat.le_refl _) _

set_option maxRecDepth 100000 in
set_option maxHeartbeats 1000000 in
theorem dk_new (w : World) (cap : Int) (hc : cap ≤ 9223372036854775807) :
    Calls Tryz.prog 8 #[.int .i64 cap] w fun e w' => LoadPost cap [] w e w' := by
  go_enter Tryz.func8, Tryz.ntmps8
  go_wp2_with fail
  refine (dk_load w cap (.slice none 0 0) [] ⟨none, 0, rfl, .inl rfl⟩ (by simp) (by simp) hc).mono ?_
  rintro e w1 ⟨hb, h⟩
  have HB := Lib.hid hb
  rcases load_cases cap [] with ⟨c, hcf, hc0, hld⟩ | hld
  · rw [hld] at h
    simp only at h
    subst h
    have HL := Lib.hid hld
    clear hld hb
    go_wp2
    refine bodyPost_ret (v := .tuple #[.pointer none, .int .i64 c]) (by simp [results, Tryz.results8, go_sem]) rfl ⟨HB.out, ?_⟩
    rw [HL.out]
  · rw [hld] at h
    obtain ⟨p, b, hpg, hbg, rfl, hd⟩ := h
    have HL := Lib.hid (And.intro hld (And.intro hpg (And.intro hbg hd)))
    clear hld hb hd hpg hbg
    go_wp2
    refine bodyPost_ret (v := .tuple #[.pointer (some ⟨p, 0, none⟩), .int .i64 0]) (by simp [results, Tryz.results8, go_sem]) rfl ⟨HB.out, ?_⟩
    rw [HL.out.1]
    exact ⟨p, b, HL.out.2.1, HL.out.2.2.1, rfl, HL.out.2.2.2⟩
end Go.Proofs.YtcdjckdbcffgdaaGreatDoor
