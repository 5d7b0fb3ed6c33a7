/- The walks of state.rules, Check, May, where there is nothing but numbers. -/
import Derived.Laws.EntriesVeiled
import Derived.Test.YteikdcobpfohcaaGreatDoorMkSxP
import Derived.Test.YteikdcobpfohcaaGreatDoorMkSxC
import Derived.Test.YteikdcobpfohcaaGreatDoorShelfE
namespace Go.Proofs.YteikdcobpfohcaaGreatDoor
open Go.RowKit

def ruleCells : Array Value := #[.string ⟨#[110, 117, 109, 98, 101, 114, 115]⟩, .func (.func 242) #[] #[], .string ⟨#[97, 99, 99, 111, 117, 110, 116, 115]⟩, .func (.func 243) #[] #[],
  .string ⟨#[105, 110, 115, 116, 114, 117, 109, 101, 110, 116, 115]⟩, .func (.func 244) #[] #[], .string ⟨#[114, 111, 119, 115]⟩, .func (.func 245) #[] #[],
  .string ⟨#[111, 114, 100, 101, 114, 115]⟩, .func (.func 246) #[] #[], .string ⟨#[97, 117, 99, 116, 105, 111, 110, 115]⟩, .func (.func 247) #[] #[],
  .string ⟨#[104, 101, 108, 100]⟩, .func (.func 248) #[] #[]]
set_option maxRecDepth 100000 in
theorem rules_any (w : World) : Calls Tryz.prog 205 #[] w fun e w' => e = .returned (.slice (some ⟨w.heap.size, 0, none⟩) 7 7) ∧ w' = w.alloc (.cells ruleCells 286) := by
  go_enter Tryz.func205, Tryz.ntmps205
  go_wp2
  go_ret
  exact ⟨rfl, rfl⟩

theorem rule_at (k : Nat) (hk : k < 7) (c : Int) (h0 : 0 ≤ c) (h1 : c ≤ 1000) : ∃ (fk : FuncId) (nm : ByteArray), Enters Tryz.prog fk ∧ ruleCells[k * 2]? = some (.string nm) ∧ ruleCells[k * 2 + 1]? = some (.func (.func fk) #[] #[]) ∧
    ∀ w : World, Calls Tryz.prog fk #[stV c 0 1 1] w fun e w' => e = .returned (.bool true) ∧ Below w.heap.size w w' := by
  match k, hk with
  | 0, _ => exact ⟨_, _, enters_of Tryz.func242 (by kernel_rfl) rfl, rfl, rfl, fun w => stnumbers_ok w c h0 h1⟩
  | 1, _ => exact ⟨_, _, enters_of Tryz.func243 (by kernel_rfl) rfl, rfl, rfl, fun w => accounts0 w c 0 1 1⟩
  | 2, _ => exact ⟨_, _, enters_of Tryz.func244 (by kernel_rfl) rfl, rfl, rfl, fun w => instruments0 w c 0 1 1⟩
  | 3, _ => exact ⟨_, _, enters_of Tryz.func245 (by kernel_rfl) rfl, rfl, rfl, fun w => strows0 w c 0 1 1⟩
  | 4, _ => exact ⟨_, _, enters_of Tryz.func246 (by kernel_rfl) rfl, rfl, rfl, fun w => storders0 w c 0 1 1⟩
  | 5, _ => exact ⟨_, _, enters_of Tryz.func247 (by kernel_rfl) rfl, rfl, rfl, fun w => stauctions0 w c 0 1 1⟩
  | 6, _ => exact ⟨_, _, enters_of Tryz.func248 (by kernel_rfl) rfl, rfl, rfl, fun w => held0 w c 0 1 1⟩

set_option maxRecDepth 100000 in
set_option maxHeartbeats 2000000 in
theorem check_ok (w : World) (c : Int) (h0 : 0 ≤ c) (h1 : c ≤ 1000) : Calls Tryz.prog 158 #[stV c 0 1 1] w fun e w' => e = .returned (.string ⟨#[]⟩) ∧ Below w.heap.size w w' := by
  unfold stV
  go_enter Tryz.func158, Tryz.ntmps158
  go_wp2_with fail
  refine (rules_any _).mono ?_
  rintro e w1 ⟨rfl, rfl⟩
  obtain ⟨b, hb⟩ : ∃ b, b = w.heap.size := ⟨_, rfl⟩
  obtain ⟨W0, hW0⟩ : ∃ W0, W0 = (w.alloc (.cells #[.int .i64 c, .int .i64 0, .int .i64 1, .int .i64 1, .slice none 0 0, .slice none 0 0, .slice none 0 0, .slice none 0 0, .slice none 0 0] 36)).alloc (.cells ruleCells 286) := ⟨_, rfl⟩
  have hsz : W0.heap.size = b + 2 := by rw [hW0, hb]; simp
  have k0 : W0.heap[b]? = some (.cells (stC c 0 1 1) 36 (0, 0)) := by rw [hW0, hb]; exact (Below.heap_alloc _ _ _ (by simp)).trans (heap_alloc_new _ _)
  have k1 : W0.heap[b + 1]? = some (.cells ruleCells 286 (0, 0)) := by rw [hW0, hb]; exact alloc_topY _ _ (by simp)
  have hbel : Below w.heap.size w W0 := by rw [hW0]; exact ((Below.refl _ _).alloc (Nat.le_refl _) _).alloc (by simp) _
  have K0 := Lib.hid k0
  have K1 := Lib.hid k1
  have HB := Lib.hid hbel
  try simp only [World.size_alloc]
  rw [← hW0, ← hb]
  have HBS := Lib.hid hb
  clear hW0 hb k0 k1 hbel
  go_wp2
  go_loopw [7] (fun i wr => ∃ k : Nat, i = .int .i64 k ∧ k ≤ 7 ∧ Hid (Below W0.heap.size W0 wr)) (fun i _ => 7 - (intOf i).toNat)
  case atStart => exact ⟨0, rfl, by omega, Lib.hid (Below.refl _ _)⟩
  case round =>
    obtain ⟨k, rfl, hk, HF⟩ := hrel
    by_cases hlt : k < 7
    · obtain ⟨fk, nm, hent, ha1, ha2, hcon⟩ := rule_at k hlt c h0 h1
      have he : ∀ (args : Array Value) (w : World), (callFunc fk args).run Tryz.prog w = .ok (.enter fk args) w := hent
      have r1 := (HF.out.block _ (lt_of_block K1.out)).trans K1.out
      have r0 := (HF.out.block _ (lt_of_block K0.out)).trans K0.out
      have g1 : wr.cell? ⟨b + 1, k * 2, none⟩ = some (.string nm) := (cell_of_row _ _ _ _ _ _ r1).trans ha1
      have g2 : wr.cell? ⟨b + 1, k * 2 + 1, none⟩ = some (.func (.func fk) #[] #[]) := (cell_of_row _ _ _ _ _ _ r1).trans ha2
      have HX := Lib.hid (fun j v (h : (stC c 0 1 1)[j]? = some v) => ((cell_of_row _ _ _ _ _ _ r0).trans h : wr.cell? ⟨b, j, none⟩ = some v))
      have x0 := HX.out 0 _ rfl
      have x1 := HX.out 1 _ rfl
      have x2 := HX.out 2 _ rfl
      have x3 := HX.out 3 _ rfl
      have x4 := HX.out 4 _ rfl
      have x5 := HX.out 5 _ rfl
      have x6 := HX.out 6 _ rfl
      have x7 := HX.out 7 _ rfl
      have x8 := HX.out 8 _ rfl
      have HCON := Lib.hid hcon
      have hwz : W0.heap.size ≤ wr.heap.size := HF.out.size
      have hbl : b < wr.heap.size := ltOfCell x0
      have hbl1 : b + 1 < wr.heap.size := ltOfCell g1
      clear r0 r1 hent ha1 ha2 hcon
      go_wp2_with fail
      refine (HCON.out _).mono ?_
      rintro e w4 ⟨rfl, hb4⟩
      have HF4 := Lib.hid ((HF.out.alloc hwz _).trans (hb4.mono (by simp; omega)))
      clear hb4
      go_wp2
      go_roundw
      case rel => exact ⟨k + 1, by go_num, by omega, HF4⟩
      case measure => simp [intOf]; omega
    · go_wp2
      go_ret
      exact ⟨rfl, HB.out.trans (HF.out.mono (by have := HBS.out; omega))⟩

set_option maxRecDepth 100000 in
set_option maxHeartbeats 1000000 in
theorem stmay_ok (w : World) (c : Int) (h0 : 0 ≤ c) (h1 : c ≤ 1000) : Calls Tryz.prog 97 #[stV c 0 1 1] w fun e w' => e = .returned (.bool true) ∧ Below w.heap.size w w' := by
  unfold stV
  go_enter Tryz.func97, Tryz.ntmps97
  go_wp2_with fail
  refine (show Calls Tryz.prog 158 #[.agg #[.int .i64 c, .int .i64 0, .int .i64 1, .int .i64 1, .slice none 0 0, .slice none 0 0, .slice none 0 0, .slice none 0 0, .slice none 0 0]] _ _ from check_ok _ c h0 h1).mono ?_
  rintro e w1 ⟨rfl, hb1⟩
  have HB := Lib.hid (box_below hb1)
  clear hb1
  go_wp2
  go_ret
  exact ⟨rfl, HB.out⟩
end Go.Proofs.YteikdcobpfohcaaGreatDoor

/- The walks of views.May, where there are none. -/
namespace Go.Proofs.YteikdcobpfohcaaGreatDoor
open Go.RowKit Go.Sort Go.Shelf

theorem sort_int0 (w : World) : Calls Tryz.prog 211 #[.slice none 0 0] w fun e w' => e = .returned (.tuple #[]) ∧ w' = w :=
  AnyM.slices_Sort_int_none Tryz.laysSlM5X none 0 w
set_option maxHeartbeats 400000 in
theorem compact_int0 (w : World) : Calls Tryz.prog 212 #[.slice none 0 0] w fun e w' => e = .returned (.slice none 0 0) ∧ w = w' := by
  go_enter Tryz.func212, Tryz.ntmps212
  go_wp2
  go_ret
  exact ⟨rfl, rfl⟩
set_option maxHeartbeats 400000 in
theorem rise_open0 (w : World) (fv : Value) : Calls Tryz.prog 206 #[.slice none 0 0, fv] w fun e w' => e = .returned (.bool true) ∧ w = w' := by
  go_enter Tryz.func206, Tryz.ntmps206
  go_wp2
  go_loopw [5] (fun i wr => i = .int .i64 1 ∧ wr = w) (fun _ _ => 0)
  case atStart => exact ⟨rfl, rfl⟩
  case round =>
    obtain ⟨rfl, rfl⟩ := hrel
    go_wp2
    go_ret
    exact ⟨rfl, rfl⟩
set_option maxHeartbeats 400000 in
theorem rise_lot0 (w : World) (fv : Value) : Calls Tryz.prog 208 #[.slice none 0 0, fv] w fun e w' => e = .returned (.bool true) ∧ w = w' := by
  go_enter Tryz.func208, Tryz.ntmps208
  go_wp2
  go_loopw [5] (fun i wr => i = .int .i64 1 ∧ wr = w) (fun _ _ => 0)
  case atStart => exact ⟨rfl, rfl⟩
  case round =>
    obtain ⟨rfl, rfl⟩ := hrel
    go_wp2
    go_ret
    exact ⟨rfl, rfl⟩
set_option maxRecDepth 100000 in
set_option maxHeartbeats 1000000 in
theorem omay0 (w : World) : Calls Tryz.prog 159 #[.slice none 0 0, .slice none 0 0] w fun e w' => e = .returned (.bool true) ∧ Below w.heap.size w w' := by
  have hmf : ∀ (fn : Fn) (first cap : Array Value) (w : World), (Instr.makeFunc fn first cap).run Tryz.prog w = .ok (.func fn first cap) w := fun _ _ _ _ => rfl
  go_enter Tryz.func159, Tryz.ntmps159
  go_wp2_with fail
  refine (rise_open0 w _).mono ?_
  rintro e w1 ⟨rfl, rfl⟩
  go_wp2_with fail
  refine (rise_lot0 w _).mono ?_
  rintro e w1 ⟨rfl, rfl⟩
  go_wp2
  go_loopw [5, 28] (fun l i wr => l = .slice none 0 0 ∧ i = .int .i64 0 ∧ wr = w) (fun _ _ _ => 0)
  case atStart => exact ⟨rfl, rfl, rfl⟩
  case round =>
    obtain ⟨rfl, rfl, rfl⟩ := hrel
    go_wp2_with fail
    refine (sort_int0 _).mono ?_
    rintro e w1 ⟨rfl, rfl⟩
    go_wp2_with fail
    refine (compact_int0 _).mono ?_
    rintro e w1 ⟨rfl, rfl⟩
    go_wp2_with fail
    refine (contains_lot0 _ _).mono ?_
    rintro e w1 ⟨rfl, rfl⟩
    go_wp2
    go_ret
    exact ⟨rfl, Below.refl _ _⟩
set_option maxRecDepth 100000 in
set_option maxHeartbeats 1000000 in
theorem pmay0 (w : World) : Calls Tryz.prog 160 #[.slice none 0 0] w fun e w' => e = .returned (.bool true) ∧ Below w.heap.size w w' := by
  go_enter Tryz.func160, Tryz.ntmps160
  go_wp2
  go_loopw [8] (fun i wr => i = .int .i64 0 ∧ wr = w) (fun _ _ => 0)
  case atStart => exact ⟨rfl, rfl⟩
  case round =>
    obtain ⟨rfl, rfl⟩ := hrel
    go_wp2
    go_ret
    exact ⟨rfl, Below.refl _ _⟩
set_option maxRecDepth 100000 in
set_option maxHeartbeats 1000000 in
theorem smay0 (w : World) : Calls Tryz.prog 161 #[.slice none 0 0] w fun e w' => e = .returned (.bool true) ∧ Below w.heap.size w w' := by
  have hmm := @run_makeMap Tryz.prog
  go_enter Tryz.func161, Tryz.ntmps161
  go_wp2
  go_loopw [12] (fun i wr => i = .int .i64 0 ∧ Hid (Below w.heap.size w wr)) (fun _ _ => 0)
  case atStart => exact ⟨rfl, Lib.hid ((Below.refl _ _).alloc (Nat.le_refl _) _)⟩
  case round =>
    obtain ⟨rfl, HB⟩ := hrel
    go_wp2
    go_ret
    exact ⟨rfl, HB.out⟩
set_option maxRecDepth 100000 in
set_option maxHeartbeats 1000000 in
theorem viewsMay0 (w : World) : Calls Tryz.prog 98 #[viewsV] w fun e w' => e = .returned (.bool true) ∧ Below w.heap.size w w' := by
  unfold viewsV
  go_enter Tryz.func98, Tryz.ntmps98
  go_wp2_with fail
  refine (omay0 _).mono ?_
  rintro e w1 ⟨rfl, hb1⟩
  have c2 := box_cell hb1 2 _ rfl
  have HB1 := Lib.hid hb1
  clear hb1
  go_wp2_with fail
  refine (pmay0 _).mono ?_
  rintro e w2 ⟨rfl, hb2⟩
  have HB2 := Lib.hid (below_on HB1.out hb2)
  have c3 := box_cell HB2.out 3 _ rfl
  clear hb2
  go_wp2_with fail
  refine (smay0 _).mono ?_
  rintro e w3 ⟨rfl, hb3⟩
  have HB3 := Lib.hid (below_on HB2.out hb3)
  clear hb3
  go_wp2
  go_ret
  exact ⟨rfl, box_below HB3.out⟩
end Go.Proofs.YteikdcobpfohcaaGreatDoor
