/- The walks of state's rules, where there are no accounts, instruments, rows, orders, auctions. -/
import Derived.Test.YteikdcobpfohcaaGreatDoorMkSxB
import Derived.Laws.StructEq
namespace Go.Proofs.YteikdcobpfohcaaGreatDoor
open Go.RowKit

theorem eq_same_ints {P : Program} {k : IntKind} (t e : TypeId) (n : Nat) (xs : Array Value) (ht : P.underlying t = some (.array n e)) (he : P.underlying e = some (.int k)) (hz : ∀ w, (sizeOf e).run P w = .ok 1 w) (ha : ∀ w, (isAgg e).run P w = .ok false w)
    (hx : ∀ i, i < n → ∃ a, xs[i]? = some (.int k a)) (d : Nat) (w : World) : (Op.equalIn (d + 1 + 1) t (.agg xs) (.agg xs)).run P w = .ok true w := by
  have hpart : ∀ i, i < n → ∀ w, ∃ a, (part e xs i).run P w = .ok (.int k a) w := fun i hi w => by
    obtain ⟨a, h⟩ := hx i hi
    exact ⟨a, by unfold part; simp [ha, h]⟩
  rw [Op.equalIn]
  simp only [Sem.run_bind, run_underlying ht, Result.andThen_ok, hz, Std.Legacy.Range.forIn_eq_forIn_range', Std.Legacy.Range.size]
  have hl : ∀ i ∈ List.range' 0 ((n - 0 + 1 - 1) / 1) 1, i < n := fun i hi => by
    rw [List.mem_range'] at hi
    obtain ⟨j, h1, h2⟩ := hi
    omega
  generalize List.range' 0 ((n - 0 + 1 - 1) / 1) 1 = l at hl ⊢
  induction l with
  | nil => simp
  | cons i l ih =>
    obtain ⟨a, h⟩ := hpart i (hl i (by simp)) w
    rw [List.forIn_cons]
    simp only [Sem.run_bind, Nat.mul_one, h, Result.andThen_ok]
    rw [run_equalIn_int w d e k k a a he]
    have := ih (fun j hj => hl j (by simp [hj]))
    simp only [Nat.mul_one] at this
    simpa using this

/-- A box laid at the start, behind calls that leave all as it was. -/
theorem box_cell {w w1 : World} {C : Array Value} {T : TypeId} (hb : Below (w.alloc (.cells C T)).heap.size (w.alloc (.cells C T)) w1) (j : Nat) (v : Value) (h : C[j]? = some v) : w1.cell? ⟨w.heap.size, j, none⟩ = some v := by
  rw [hb.cell (by simp), World.cell?_alloc_at _ _ _ _ rfl]; exact h
theorem box_below {w w1 : World} {o : Obj} (hb : Below (w.alloc o).heap.size (w.alloc o) w1) : Below w.heap.size w w1 := ((Below.refl _ _).alloc (Nat.le_refl _) _).trans (hb.mono (by simp))
theorem below_on {a b c : World} (h : Below a.heap.size a b) (k : Below b.heap.size b c) : Below a.heap.size a c := h.trans (k.mono h.size)

/-- A state of which there is nothing but its numbers. -/
def stV (c f a b : Int) : Value := .agg #[.int .i64 c, .int .i64 f, .int .i64 a, .int .i64 b, .slice none 0 0, .slice none 0 0, .slice none 0 0, .slice none 0 0, .slice none 0 0]
def viewsV : Value := .agg #[.slice none 0 0, .slice none 0 0, .slice none 0 0, .slice none 0 0]

theorem between_in (w : World) (n l h : Int) (h0 : l ≤ n) (h1 : n ≤ h) : Calls Tryz.prog 270 #[.int .i64 n, .int .i64 l, .int .i64 h] w fun e w' => e = .returned (.bool true) ∧ w = w' := by
  go_enter Tryz.func270, Tryz.ntmps270
  go_wp2
  go_ret
  exact ⟨rfl, rfl⟩
theorem between_low (w : World) (n l h : Int) (h0 : n < l) : Calls Tryz.prog 270 #[.int .i64 n, .int .i64 l, .int .i64 h] w fun e w' => e = .returned (.bool false) ∧ w = w' := by
  go_enter Tryz.func270, Tryz.ntmps270
  go_wp2
  go_ret
  exact ⟨rfl, rfl⟩
theorem numbers1_in (w : World) (n : Int) (h0 : 1 ≤ n) (h1 : n ≤ 1099511627777) : Calls Tryz.prog 269 #[.int .i64 n] w fun e w' => e = .returned (.bool true) ∧ w = w' := by
  go_enter Tryz.func269, Tryz.ntmps269
  go_wp2_with fail
  refine (between_in w n 1 1099511627777 h0 h1).mono ?_
  rintro e w1 ⟨rfl, rfl⟩
  go_wp2
  go_ret
  exact ⟨rfl, rfl⟩
theorem numbers1_low (w : World) (n : Int) (h0 : n < 1) : Calls Tryz.prog 269 #[.int .i64 n] w fun e w' => e = .returned (.bool false) ∧ w = w' := by
  go_enter Tryz.func269, Tryz.ntmps269
  go_wp2_with fail
  refine (between_low w n 1 1099511627777 h0).mono ?_
  rintro e w1 ⟨rfl, rfl⟩
  go_wp2
  go_ret
  exact ⟨rfl, rfl⟩
set_option maxRecDepth 100000 in
set_option maxHeartbeats 1000000 in
theorem stnumbers_ok (w : World) (c : Int) (h0 : 0 ≤ c) (h1 : c ≤ 1000) : Calls Tryz.prog 242 #[stV c 0 1 1] w fun e w' => e = .returned (.bool true) ∧ Below w.heap.size w w' := by
  unfold stV
  have hmf : ∀ (fn : Fn) (first cap : Array Value) (w : World), (Instr.makeFunc fn first cap).run Tryz.prog w = .ok (.func fn first cap) w := fun _ _ _ _ => rfl
  have he : ∀ (args : Array Value) (w : World), (callFunc 269 args).run Tryz.prog w = .ok (.enter 269 args) w := enters_of Tryz.func269 (by kernel_rfl) rfl
  go_enter Tryz.func242, Tryz.ntmps242
  go_wp2_with fail
  refine (between_in _ c 0 1099511627776 (by omega) (by omega)).mono ?_
  rintro e w1 ⟨rfl, rfl⟩
  go_wp2_with fail
  refine (between_in _ 0 0 1000 (by omega) (by omega)).mono ?_
  rintro e w1 ⟨rfl, rfl⟩
  go_wp2_with fail
  refine (numbers1_in _ 1 (by omega) (by omega)).mono ?_
  rintro e w1 ⟨rfl, rfl⟩
  go_wp2_with fail
  refine (numbers1_in _ 1 (by omega) (by omega)).mono ?_
  rintro e w1 ⟨rfl, rfl⟩
  go_wp2
  go_ret
  exact ⟨rfl, (Below.refl _ _).alloc (Nat.le_refl _) _⟩
set_option maxRecDepth 100000 in
set_option maxHeartbeats 1000000 in
theorem stnumbers_zero (w : World) : Calls Tryz.prog 242 #[stV 0 0 0 0] w fun e w' => e = .returned (.bool false) ∧ Below w.heap.size w w' := by
  unfold stV
  have hmf : ∀ (fn : Fn) (first cap : Array Value) (w : World), (Instr.makeFunc fn first cap).run Tryz.prog w = .ok (.func fn first cap) w := fun _ _ _ _ => rfl
  have he : ∀ (args : Array Value) (w : World), (callFunc 269 args).run Tryz.prog w = .ok (.enter 269 args) w := enters_of Tryz.func269 (by kernel_rfl) rfl
  go_enter Tryz.func242, Tryz.ntmps242
  go_wp2_with fail
  refine (between_in _ 0 0 1099511627776 (by omega) (by omega)).mono ?_
  rintro e w1 ⟨rfl, rfl⟩
  go_wp2_with fail
  refine (between_in _ 0 0 1000 (by omega) (by omega)).mono ?_
  rintro e w1 ⟨rfl, rfl⟩
  go_wp2_with fail
  refine (numbers1_low _ 0 (by omega)).mono ?_
  rintro e w1 ⟨rfl, rfl⟩
  go_wp2
  go_ret
  exact ⟨rfl, (Below.refl _ _).alloc (Nat.le_refl _) _⟩
set_option maxRecDepth 100000 in
set_option maxHeartbeats 1000000 in
theorem accounts0 (w : World) (c f a b : Int) : Calls Tryz.prog 243 #[stV c f a b] w fun e w' => e = .returned (.bool true) ∧ Below w.heap.size w w' := by
  unfold stV
  go_enter Tryz.func243, Tryz.ntmps243
  go_wp2
  go_loopw [3, 9] (fun l i wr => l = .slice none 0 0 ∧ i = .int .i64 0 ∧ Hid (Below w.heap.size w wr)) (fun _ _ _ => 0)
  case atStart => exact ⟨rfl, rfl, Lib.hid ((Below.refl _ _).alloc (Nat.le_refl _) _)⟩
  case round =>
    obtain ⟨rfl, rfl, HB⟩ := hrel
    go_wp2_with fail
    refine (named0 _).mono ?_
    rintro e w1 ⟨rfl, rfl⟩
    go_wp2
    go_ret
    exact ⟨rfl, HB.out⟩
set_option maxRecDepth 100000 in
set_option maxHeartbeats 1000000 in
theorem instruments0 (w : World) (c f a b : Int) : Calls Tryz.prog 244 #[stV c f a b] w fun e w' => e = .returned (.bool true) ∧ Below w.heap.size w w' := by
  unfold stV
  go_enter Tryz.func244, Tryz.ntmps244
  go_wp2
  go_loopw [3, 9] (fun l i wr => l = .slice none 0 0 ∧ i = .int .i64 0 ∧ Hid (Below w.heap.size w wr)) (fun _ _ _ => 0)
  case atStart => exact ⟨rfl, rfl, Lib.hid ((Below.refl _ _).alloc (Nat.le_refl _) _)⟩
  case round =>
    obtain ⟨rfl, rfl, HB⟩ := hrel
    go_wp2_with fail
    refine (named0 _).mono ?_
    rintro e w1 ⟨rfl, rfl⟩
    go_wp2
    go_ret
    exact ⟨rfl, HB.out⟩
set_option maxRecDepth 100000 in
set_option maxHeartbeats 1000000 in
theorem ledger0 (w : World) : Calls Tryz.prog 274 #[.slice none 0 0] w fun e w' => e = .returned (.bool true) ∧ Below w.heap.size w w' := by
  have hq : ∀ w, (binOp .eql 380 (.agg #[.int .i64 0, .int .i64 0, .int .i64 0, .int .i64 0, .int .i64 0, .int .i64 0, .int .i64 0, .int .i64 0, .int .i64 0, .int .i64 0, .int .i64 0, .int .i64 0, .int .i64 0, .int .i64 0, .int .i64 0, .int .i64 0, .int .i64 0]) (.agg #[.int .i64 0, .int .i64 0, .int .i64 0, .int .i64 0, .int .i64 0, .int .i64 0, .int .i64 0, .int .i64 0, .int .i64 0, .int .i64 0, .int .i64 0, .int .i64 0, .int .i64 0, .int .i64 0, .int .i64 0, .int .i64 0, .int .i64 0])).run Tryz.prog w = .ok (.bool true) w := fun w => by
    rw [run_eql_struct, eq_same_ints 380 2 17 _ Tryz.underlying380 Tryz.underlying2 (Tryz.sizeOf2) (Tryz.isAgg2) (fun i hi => ⟨0, by
      rcases (show i = 0 ∨ i = 1 ∨ i = 2 ∨ i = 3 ∨ i = 4 ∨ i = 5 ∨ i = 6 ∨ i = 7 ∨ i = 8 ∨ i = 9 ∨ i = 10 ∨ i = 11 ∨ i = 12 ∨ i = 13 ∨ i = 14 ∨ i = 15 ∨ i = 16 from by omega) with rfl | rfl | rfl | rfl | rfl | rfl | rfl | rfl | rfl | rfl | rfl | rfl | rfl | rfl | rfl | rfl | rfl <;> rfl⟩) 9998 w]
    rfl
  go_enter Tryz.func274, Tryz.ntmps274
  go_wp2
  go_loopw [13] (fun i wr => i = .int .i64 0 ∧ Hid (Below w.heap.size w wr) ∧ Hid (∀ j, j < 17 → wr.cell? ⟨w.heap.size + 1, j, none⟩ = some (.int .i64 0))) (fun _ _ => 0)
  case atStart =>
    refine ⟨rfl, Lib.hid (((Below.refl _ _).alloc (Nat.le_refl _) _).alloc (by simp) _), Lib.hid (fun j hj => ?_)⟩
    rw [World.cell?_alloc_at _ _ _ _ (by simp)]
    rcases (show j = 0 ∨ j = 1 ∨ j = 2 ∨ j = 3 ∨ j = 4 ∨ j = 5 ∨ j = 6 ∨ j = 7 ∨ j = 8 ∨ j = 9 ∨ j = 10 ∨ j = 11 ∨ j = 12 ∨ j = 13 ∨ j = 14 ∨ j = 15 ∨ j = 16 from by omega) with rfl | rfl | rfl | rfl | rfl | rfl | rfl | rfl | rfl | rfl | rfl | rfl | rfl | rfl | rfl | rfl | rfl <;> rfl
  case round =>
    obtain ⟨rfl, HB, HC⟩ := hrel
    have x0 := HC.out 0 (by omega)
    have x1 := HC.out 1 (by omega)
    have x2 := HC.out 2 (by omega)
    have x3 := HC.out 3 (by omega)
    have x4 := HC.out 4 (by omega)
    have x5 := HC.out 5 (by omega)
    have x6 := HC.out 6 (by omega)
    have x7 := HC.out 7 (by omega)
    have x8 := HC.out 8 (by omega)
    have x9 := HC.out 9 (by omega)
    have x10 := HC.out 10 (by omega)
    have x11 := HC.out 11 (by omega)
    have x12 := HC.out 12 (by omega)
    have x13 := HC.out 13 (by omega)
    have x14 := HC.out 14 (by omega)
    have x15 := HC.out 15 (by omega)
    have x16 := HC.out 16 (by omega)
    go_wp2
    go_ret
    exact ⟨rfl, HB.out⟩
set_option maxRecDepth 100000 in
set_option maxHeartbeats 1000000 in
theorem book0 (w : World) : Calls Tryz.prog 278 #[.slice none 0 0] w fun e w' => e = .returned (.bool true) ∧ Below w.heap.size w w' := by
  go_enter Tryz.func278, Tryz.ntmps278
  go_wp2_with fail
  refine (contains_order0 w _).mono ?_
  rintro e w1 ⟨rfl, rfl⟩
  go_wp2
  go_loopw [17] (fun i wr => i = .int .i64 0 ∧ Hid (Below w.heap.size w wr)) (fun _ _ => 0)
  case atStart => exact ⟨rfl, Lib.hid (Below.refl _ _)⟩
  case round =>
    obtain ⟨rfl, HB⟩ := hrel
    go_wp2
    go_ret
    exact ⟨rfl, HB.out⟩
set_option maxRecDepth 100000 in
set_option maxHeartbeats 1000000 in
theorem auction0 (w : World) : Calls Tryz.prog 284 #[.slice none 0 0] w fun e w' => e = .returned (.bool true) ∧ Below w.heap.size w w' := by
  go_enter Tryz.func284, Tryz.ntmps284
  go_wp2
  go_loopw [8] (fun i wr => i = .int .i64 0 ∧ Hid (Below w.heap.size w wr)) (fun _ _ => 0)
  case atStart => exact ⟨rfl, Lib.hid (Below.refl _ _)⟩
  case round =>
    obtain ⟨rfl, HB⟩ := hrel
    go_wp2
    go_ret
    exact ⟨rfl, HB.out⟩
set_option maxRecDepth 100000 in
set_option maxHeartbeats 1000000 in
theorem strows0 (w : World) (c f a b : Int) : Calls Tryz.prog 245 #[stV c f a b] w fun e w' => e = .returned (.bool true) ∧ Below w.heap.size w w' := by
  unfold stV
  have hmf : ∀ (fn : Fn) (first cap : Array Value) (w : World), (Instr.makeFunc fn first cap).run Tryz.prog w = .ok (.func fn first cap) w := fun _ _ _ _ => rfl
  go_enter Tryz.func245, Tryz.ntmps245
  go_wp2_with fail
  refine (ledger0 _).mono ?_
  rintro e w1 ⟨rfl, hb1⟩
  have c1 := box_cell hb1 6 _ rfl
  have HB := Lib.hid (box_below hb1)
  clear hb1
  go_wp2_with fail
  refine (contains_row0 _ _).mono ?_
  rintro e w2 ⟨rfl, rfl⟩
  go_wp2
  go_ret
  exact ⟨rfl, HB.out⟩
set_option maxRecDepth 100000 in
set_option maxHeartbeats 1000000 in
theorem storders0 (w : World) (c f a b : Int) : Calls Tryz.prog 246 #[stV c f a b] w fun e w' => e = .returned (.bool true) ∧ Below w.heap.size w w' := by
  unfold stV
  have hmf : ∀ (fn : Fn) (first cap : Array Value) (w : World), (Instr.makeFunc fn first cap).run Tryz.prog w = .ok (.func fn first cap) w := fun _ _ _ _ => rfl
  go_enter Tryz.func246, Tryz.ntmps246
  go_wp2_with fail
  refine (book0 _).mono ?_
  rintro e w1 ⟨rfl, hb1⟩
  have c1 := box_cell hb1 7 _ rfl
  have HB := Lib.hid (box_below hb1)
  clear hb1
  go_wp2_with fail
  refine (contains_order0 _ _).mono ?_
  rintro e w2 ⟨rfl, rfl⟩
  go_wp2
  go_ret
  exact ⟨rfl, HB.out⟩
set_option maxRecDepth 100000 in
set_option maxHeartbeats 1000000 in
theorem stauctions0 (w : World) (c f a b : Int) : Calls Tryz.prog 247 #[stV c f a b] w fun e w' => e = .returned (.bool true) ∧ Below w.heap.size w w' := by
  unfold stV
  have hmf : ∀ (fn : Fn) (first cap : Array Value) (w : World), (Instr.makeFunc fn first cap).run Tryz.prog w = .ok (.func fn first cap) w := fun _ _ _ _ => rfl
  go_enter Tryz.func247, Tryz.ntmps247
  go_wp2_with fail
  refine (auction0 _).mono ?_
  rintro e w1 ⟨rfl, hb1⟩
  have c1 := box_cell hb1 8 _ rfl
  have HB := Lib.hid (box_below hb1)
  clear hb1
  go_wp2_with fail
  refine (contains_auction0 _ _).mono ?_
  rintro e w2 ⟨rfl, rfl⟩
  go_wp2
  go_ret
  exact ⟨rfl, HB.out⟩
end Go.Proofs.YteikdcobpfohcaaGreatDoor
