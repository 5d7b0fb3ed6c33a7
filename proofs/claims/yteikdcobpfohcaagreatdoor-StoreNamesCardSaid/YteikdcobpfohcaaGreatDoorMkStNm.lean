/- The walk of the law StoreNames. -/
import Derived.Test.YteikdcobpfohcaaGreatDoorMkAwW
import Derived.Test.YteikdcobpfohcaaGreatDoorMkNf
import Derived.Test.YteikdcobpfohcaaGreatDoorMFk
namespace Go.Proofs.YteikdcobpfohcaaGreatDoor
open Go.RowKit Go.Maps Go.Sort

def noNames : List ByteArray := [⟨#[]⟩, ⟨#[110]⟩, ⟨#[110, 49, 55]⟩, ⟨#[110, 48, 48, 48, 48, 48, 48, 48, 48, 48, 49, 55]⟩, ⟨#[115, 48, 48, 48, 48, 48, 48, 48, 48, 49, 55]⟩, ⟨#[78, 48, 48, 48, 48, 48, 48, 48, 48, 49, 55]⟩, ⟨#[110, 48, 48, 48, 48, 48, 48, 48, 48, 49, 120]⟩, ⟨#[110, 45, 48, 48, 48, 48, 48, 48, 48, 48, 49]⟩, ⟨#[110, 43, 48, 48, 48, 48, 48, 48, 48, 48, 49]⟩, ⟨#[110, 48, 48, 48, 49, 48, 52, 56, 53, 55, 55]⟩, ⟨#[110, 57, 57, 57, 57, 57, 57, 57, 57, 57, 57]⟩, ⟨#[110, 32, 48, 48, 48, 48, 48, 48, 48, 48, 49]⟩, ⟨#[83, 78, 65, 80, 83, 72, 79, 84, 46, 110, 101, 119]⟩]
def noNamesV : Array Value := #[.string ⟨#[]⟩, .string ⟨#[110]⟩, .string ⟨#[110, 49, 55]⟩, .string ⟨#[110, 48, 48, 48, 48, 48, 48, 48, 48, 48, 49, 55]⟩, .string ⟨#[115, 48, 48, 48, 48, 48, 48, 48, 48, 49, 55]⟩, .string ⟨#[78, 48, 48, 48, 48, 48, 48, 48, 48, 49, 55]⟩, .string ⟨#[110, 48, 48, 48, 48, 48, 48, 48, 48, 49, 120]⟩, .string ⟨#[110, 45, 48, 48, 48, 48, 48, 48, 48, 48, 49]⟩, .string ⟨#[110, 43, 48, 48, 48, 48, 48, 48, 48, 48, 49]⟩, .string ⟨#[110, 48, 48, 48, 49, 48, 52, 56, 53, 55, 55]⟩, .string ⟨#[110, 57, 57, 57, 57, 57, 57, 57, 57, 57, 57]⟩, .string ⟨#[110, 32, 48, 48, 48, 48, 48, 48, 48, 48, 49]⟩, .string ⟨#[83, 78, 65, 80, 83, 72, 79, 84, 46, 110, 101, 119]⟩]
set_option maxRecDepth 100000 in
theorem noNames_none : ∀ s ∈ noNames, snapC s.data.toList = none ∧ s.size ≤ 100 := by decide +kernel
theorem noNamesV_at {k : Nat} (h : k < 13) : ∃ s, s ∈ noNames ∧ noNamesV[k]? = some (.string s) := by
  obtain rfl | rfl | rfl | rfl | rfl | rfl | rfl | rfl | rfl | rfl | rfl | rfl | rfl : k = 0 ∨ k = 1 ∨ k = 2 ∨ k = 3 ∨ k = 4 ∨ k = 5 ∨ k = 6 ∨ k = 7 ∨ k = 8 ∨ k = 9 ∨ k = 10 ∨ k = 11 ∨ k = 12 := by omega
  all_goals exact ⟨_, by unfold noNames; simp only [List.mem_cons, true_or, or_true], rfl⟩
theorem not_snap {s : ByteArray} (h : s ∈ noNames) : ¬ isSnap s.data.toList := snapNum_none.1 ((snapC_eq _).symm.trans (noNames_none s h).1)
set_option maxRecDepth 100000 in
theorem st_gone : dkRead seT (snapName 5) = ([], 5) := by decide +kernel
set_option maxRecDepth 100000 in
theorem se_full : (dkWrite seT 1048576 (emptyF 1048576 0, 0)).2 = 0 := by decide +kernel
theorem se_dropped : dkDrop seT 0 = (seT, 0) := rfl
set_option maxRecDepth 100000 in
theorem sn_full : snapName 1048576 = [110, 48, 48, 48, 49, 48, 52, 56, 53, 55, 54] := by decide +kernel
theorem is_full {r : Value} (h : snapIs [110, 48, 48, 48, 49, 48, 52, 56, 53, 55, 54] r) : r = .tuple #[.int .i64 1048576, .bool true] := by
  rcases h with ⟨n, h1, h2, rfl⟩ | ⟨h1, _⟩
  · have : n = 1048576 := snapName_inj h1 (by omega) (h2.symm.trans sn_full.symm)
    subst this; rfl
  · exact absurd ⟨1048576, by omega, sn_full.symm⟩ h1

theorem new_on (w0 W : World) (hb : Below w0.heap.size w0 W) : Calls Tryz.prog 11 #[.int .i64 1000] W fun e w' => ∃ p b, e = .returned (.tuple #[.pointer (some ⟨p, 0, none⟩), .int .i64 0]) ∧ Own27 w0 w' p b seT ∧ Below W.heap.size W w' ∧ W.heap.size ≤ p ∧ W.heap.size ≤ b := by
  refine (dk_new W 1000 (by omega)).mono ?_
  rintro e w' ⟨h1, h2⟩
  rw [se_load] at h2
  obtain ⟨p, b, h3, h4, h5, h6⟩ := h2
  have := hb.size
  exact ⟨p, b, h5, ⟨h6, by omega, by omega, hb.trans (h1.mono hb.size)⟩, h1, by omega, by omega⟩

set_option maxRecDepth 100000 in
set_option maxHeartbeats 4000000 in
theorem storeNames_any (w : World) (hl : Libz w) : Calls Tryz.prog 3 #[] w fun e w' => e = .returned (.bool true) ∧ Below w.heap.size w w' := by
  have HL := Lib.hid hl
  clear hl
  go_enter Tryz.func3, Tryz.ntmps3
  go_wp2_with fail
  refine (awake_any _ HL.out).mono ?_
  rintro e w1 ⟨rfl, hb1⟩
  have HB1 := Lib.hid hb1
  clear hb1
  go_wp2_with fail
  obtain ⟨ab, hab⟩ : ∃ ab, ab = w1.heap.size := ⟨_, rfl⟩
  obtain ⟨wa, hwa⟩ : ∃ wa, wa = w1.alloc (.cells noNamesV 9) := ⟨_, rfl⟩
  have hba : Below w1.heap.size w1 wa := by rw [hwa]; exact (Below.refl _ _).alloc (Nat.le_refl _) _
  have hka : wa.heap[ab]? = some (.cells noNamesV 9 (0, 0)) := by rw [hwa, hab]; exact heap_alloc_new _ _
  have HBa := Lib.hid (HB1.out.trans (hba.mono HB1.out.size))
  have HKa := Lib.hid hka
  unfold noNamesV at hwa
  rw [← hwa, ← hab]
  clear hwa hab hba hka
  go_loopw [38] (fun i wr => ∃ k : Nat, i = .int .i64 (k : Int) ∧ k ≤ 13 ∧ Hid (Below wa.heap.size wa wr)) (fun i _ => 13 - (intOf i).toNat)
  case atStart => exact ⟨0, rfl, by omega, Lib.hid (Below.refl _ _)⟩
  case round =>
    obtain ⟨k, rfl, hk, HB⟩ := hrel
    by_cases hlt : k < 13
    · obtain ⟨s, hs, hsv⟩ := noNamesV_at hlt
      have hkr := (HB.out.block _ (lt_of_block HKa.out)).trans HKa.out
      have c0 := (cell_of_row _ _ k _ _ _ hkr).trans hsv
      have HS := Lib.hid hs
      clear hsv hkr hs
      go_wp2_with fail
      refine (snamed_any wr (HL.out.pure (HBa.out.trans (HB.out.mono HBa.out.size))) s (by have := (noNames_none s HS.out).2; omega)).mono ?_
      rintro e wb ⟨⟨r, hr, rfl⟩, hbb⟩
      rcases hr with ⟨n, h1, h2, _⟩ | ⟨_, rfl⟩
      · exact absurd ⟨n, h1, h2⟩ (not_snap HS.out)
      have HBb := Lib.hid (HB.out.trans (hbb.mono HB.out.size))
      clear hbb c0
      go_wp2_with fail
      go_roundw
      case rel => exact ⟨k + 1, by go_num, by omega, HBb⟩
      case measure => simp [intOf]; omega
    · obtain rfl : k = 13 := by omega
      have HBr := Lib.hid (HBa.out.trans (HB.out.mono HBa.out.size))
      clear HB HBa HKa HB1
      go_wp2_with fail
      refine (slist_nil wr).mono ?_
      rintro e w2 ⟨rfl, rfl⟩
      go_wp2_with fail
      refine (show Calls Tryz.prog 8 #[.pointer none, .int .i64 0] _ _ from sread_no _ _ (HL.out.pure HBr.out).pow 0 (by decide) [] 2 (by decide) (reads_nil _ _)).mono ?_
      rintro e w3 ⟨rfl, hb3⟩
      have Q3 := Lib.hid (below_on HBr.out hb3)
      clear HBr
      try unfold stZ
      try unfold viewsV
      go_wp2_with fail
      obtain ⟨X3, hX3⟩ : ∃ X3, X3 = (w3.alloc (.cells #[.int .i64 0, .int .i64 0, .int .i64 0, .int .i64 0, .slice none 0 0, .slice none 0 0, .slice none 0 0, .slice none 0 0, .slice none 0 0] 36)).alloc (.cells #[.slice none 0 0, .slice none 0 0, .slice none 0 0, .slice none 0 0] 42) := ⟨_, rfl⟩
      have hbx3 : Below w3.heap.size w3 X3 := by rw [hX3]; exact ((Below.refl _ _).alloc (Nat.le_refl _) _).alloc (by simp) _
      have P3 := Lib.hid (below_on Q3.out hbx3)
      rw [← hX3]
      clear hX3 hb3 hbx3 Q3
      go_wp2_with fail
      refine (show Calls Tryz.prog 8 #[.pointer none, .int .i64 (-1)] _ _ from sread_arg _ _ (-1) (by decide)).mono ?_
      rintro e w4 ⟨rfl, hb4⟩
      have Q4 := Lib.hid (below_on P3.out hb4)
      clear P3
      try unfold stZ
      try unfold viewsV
      go_wp2_with fail
      obtain ⟨X4, hX4⟩ : ∃ X4, X4 = (w4.alloc (.cells #[.int .i64 0, .int .i64 0, .int .i64 0, .int .i64 0, .slice none 0 0, .slice none 0 0, .slice none 0 0, .slice none 0 0, .slice none 0 0] 36)).alloc (.cells #[.slice none 0 0, .slice none 0 0, .slice none 0 0, .slice none 0 0] 42) := ⟨_, rfl⟩
      have hbx4 : Below w4.heap.size w4 X4 := by rw [hX4]; exact ((Below.refl _ _).alloc (Nat.le_refl _) _).alloc (by simp) _
      have P4 := Lib.hid (below_on Q4.out hbx4)
      rw [← hX4]
      clear hX4 hb4 hbx4 Q4
      go_wp2_with fail
      refine (show Calls Tryz.prog 9 #[.pointer none, .int .i64 0, .int .i64 9] _ _ from newest_nil _ 0 9).mono ?_
      rintro e w5 ⟨rfl, hb5⟩
      have Q5 := Lib.hid (below_on P4.out hb5)
      clear P4
      try unfold stZ
      try unfold viewsV
      go_wp2_with fail
      obtain ⟨X5, hX5⟩ : ∃ X5, X5 = (w5.alloc (.cells #[.int .i64 0, .int .i64 0, .int .i64 0, .int .i64 0, .slice none 0 0, .slice none 0 0, .slice none 0 0, .slice none 0 0, .slice none 0 0] 36)).alloc (.cells #[.slice none 0 0, .slice none 0 0, .slice none 0 0, .slice none 0 0] 42) := ⟨_, rfl⟩
      have hbx5 : Below w5.heap.size w5 X5 := by rw [hX5]; exact ((Below.refl _ _).alloc (Nat.le_refl _) _).alloc (by simp) _
      have P5 := Lib.hid (below_on Q5.out hbx5)
      rw [← hX5]
      clear hX5 hb5 hbx5 Q5
      go_wp2_with fail
      refine (rempty_any _).mono ?_
      rintro e w6 ⟨rfl, hb6⟩
      have Q6 := Lib.hid (below_on P5.out hb6)
      clear P5 hb6
      unfold stV
      go_wp2_with fail
      obtain ⟨bx, hbx⟩ : ∃ bx, bx = w6.heap.size := ⟨_, rfl⟩
      obtain ⟨X6, hX6⟩ : ∃ X6, X6 = w6.alloc (.cells #[.int .i64 0, .int .i64 0, .int .i64 1, .int .i64 1, .slice none 0 0, .slice none 0 0, .slice none 0 0, .slice none 0 0, .slice none 0 0] 36) := ⟨_, rfl⟩
      have hbx6 : Below w6.heap.size w6 X6 := by rw [hX6]; exact (Below.refl _ _).alloc (Nat.le_refl _) _
      have hk6 : X6.heap[bx]? = some (.cells #[.int .i64 0, .int .i64 0, .int .i64 1, .int .i64 1, .slice none 0 0, .slice none 0 0, .slice none 0 0, .slice none 0 0, .slice none 0 0] 36 (0, 0)) := by rw [hX6, hbx]; exact heap_alloc_new _ _
      have P6 := Lib.hid (below_on Q6.out hbx6)
      have K6 := Lib.hid hk6
      rw [← hX6, ← hbx]
      clear hX6 hbx hbx6 hk6 Q6
      refine (new_on w X6 P6.out).mono ?_
      rintro e w7 ⟨p, b, rfl, o7, hb7, hp7⟩
      have O7 := Lib.hid o7
      have K7 := Lib.hid (((hb7.block _ (lt_of_block K6.out)).trans K6.out))
      have hlp : bx ≠ p ∧ bx ≠ b := by have := lt_of_block K6.out; omega
      clear o7 hb7 hp7 P6 K6
      go_wp2_with fail
      refine (show Calls Tryz.prog 8 #[.pointer (some ⟨p, 0, none⟩), .int .i64 5] _ _ from sread_no _ _ (O7.out.lz HL.out).1.pow 5 (by decide) [] 5 (by decide) (reads_of O7.out.dk st_gone (snapName_short _))).mono ?_
      rintro e w8 ⟨rfl, hb8⟩
      have Q8 := Lib.hid (O7.out.pure hb8)
      try unfold stZ
      try unfold viewsV
      go_wp2_with fail
      obtain ⟨X8, hX8⟩ : ∃ X8, X8 = (w8.alloc (.cells #[.int .i64 0, .int .i64 0, .int .i64 0, .int .i64 0, .slice none 0 0, .slice none 0 0, .slice none 0 0, .slice none 0 0, .slice none 0 0] 36)).alloc (.cells #[.slice none 0 0, .slice none 0 0, .slice none 0 0, .slice none 0 0] 42) := ⟨_, rfl⟩
      have hbx8 : Below w8.heap.size w8 X8 := by rw [hX8]; exact ((Below.refl _ _).alloc (Nat.le_refl _) _).alloc (by simp) _
      have O8 := Lib.hid (Q8.out.pure hbx8)
      have K8 := Lib.hid ((below_on hb8 hbx8).block _ (lt_of_block K7.out) |>.trans K7.out)
      rw [← hX8]
      clear hX8 hb8 hbx8 Q8 O7 K7
      go_wp2_with fail
      refine (show Calls Tryz.prog 8 #[.pointer (some ⟨p, 0, none⟩), .int .i64 1048577] _ _ from sread_arg _ _ 1048577 (by decide)).mono ?_
      rintro e w9 ⟨rfl, hb9⟩
      have Q9 := Lib.hid (O8.out.pure hb9)
      try unfold stZ
      try unfold viewsV
      go_wp2_with fail
      obtain ⟨X9, hX9⟩ : ∃ X9, X9 = (w9.alloc (.cells #[.int .i64 0, .int .i64 0, .int .i64 0, .int .i64 0, .slice none 0 0, .slice none 0 0, .slice none 0 0, .slice none 0 0, .slice none 0 0] 36)).alloc (.cells #[.slice none 0 0, .slice none 0 0, .slice none 0 0, .slice none 0 0] 42) := ⟨_, rfl⟩
      have hbx9 : Below w9.heap.size w9 X9 := by rw [hX9]; exact ((Below.refl _ _).alloc (Nat.le_refl _) _).alloc (by simp) _
      have O9 := Lib.hid (Q9.out.pure hbx9)
      have K9 := Lib.hid ((below_on hb9 hbx9).block _ (lt_of_block K8.out) |>.trans K8.out)
      rw [← hX9]
      clear hX9 hb9 hbx9 Q9 O8 K8
      go_wp2_with fail
      refine (show Calls Tryz.prog 9 #[.pointer (some ⟨p, 0, none⟩), .int .i64 0, .int .i64 9] _ _ from st_newest _ (O9.out.lz HL.out).1 p b seT O9.out.dk rfl 0 9 (fun _ => none) (fun n hn => by cases hn) (fun n hn => by cases hn)).mono ?_
      rw [show newestV (fun _ => none) (backL 0 9 (snapNums (seT.fs.map (·.name)))) = .tuple #[.int .i64 0, stZ, viewsV, .bool false, .int .i64 0] from rfl]
      rintro e w10 ⟨rfl, hb10⟩
      have Q10 := Lib.hid (O9.out.pure hb10)
      try unfold stZ
      try unfold viewsV
      go_wp2_with fail
      obtain ⟨X10, hX10⟩ : ∃ X10, X10 = (w10.alloc (.cells #[.int .i64 0, .int .i64 0, .int .i64 0, .int .i64 0, .slice none 0 0, .slice none 0 0, .slice none 0 0, .slice none 0 0, .slice none 0 0] 36)).alloc (.cells #[.slice none 0 0, .slice none 0 0, .slice none 0 0, .slice none 0 0] 42) := ⟨_, rfl⟩
      have hbx10 : Below w10.heap.size w10 X10 := by rw [hX10]; exact ((Below.refl _ _).alloc (Nat.le_refl _) _).alloc (by simp) _
      have O10 := Lib.hid (Q10.out.pure hbx10)
      have K10 := Lib.hid ((below_on hb10 hbx10).block _ (lt_of_block K9.out) |>.trans K9.out)
      rw [← hX10]
      clear hX10 hb10 hbx10 Q10 O9 K9
      refine (snamed_any _ (O10.out.lz HL.out).1 ⟨#[110, 48, 48, 48, 49, 48, 52, 56, 53, 55, 54]⟩ (by decide)).mono ?_
      rintro e w11 ⟨⟨r, hr, rfl⟩, hb11⟩
      obtain rfl := is_full hr
      have O11 := Lib.hid (O10.out.pure hb11)
      have K11 := Lib.hid ((hb11.block _ (lt_of_block K10.out)).trans K10.out)
      clear hr hb11 O10 K10
      go_wp2_with fail
      refine (sdrop_nil _ 0).mono ?_
      rintro e w12 ⟨rfl, rfl⟩
      go_wp2_with fail
      refine (st_drop w11 (O11.out.lz HL.out).1 p b seT O11.out.dk (O11.out.lz HL.out).2 0).mono ?_
      rintro e w13 ⟨rfl, hd13, hf13⟩
      rw [se_dropped] at hd13 ⊢
      have O13 := Lib.hid (O11.out.op hd13 hf13)
      have K13 := Lib.hid ((hf13.block _ (lt_of_block K11.out) (fun e => by rcases e with e | e; exact hlp.1 e; exact hlp.2 e)).trans K11.out)
      clear hd13 hf13 O11 K11
      go_wp2_with fail
      refine (show Calls Tryz.prog 13 #[.pointer none, .int .i64 (-1), .agg #[.int .i64 0, .int .i64 0, .int .i64 0, .int .i64 0, .slice none 0 0, .slice none 0 0, .slice none 0 0, .slice none 0 0, .slice none 0 0], .agg #[.slice none 0 0, .slice none 0 0, .slice none 0 0, .slice none 0 0]] w13 _ from write_refused _ none (-1) 0 0 0 0 [] 1 (by decide) (fun W _ => file_arg W (-1) 0 0 0 0 (by decide))).mono ?_
      rintro e w14 ⟨rfl, hb14⟩
      have O14 := Lib.hid (O13.out.pure hb14)
      have K14 := Lib.hid ((hb14.block _ (lt_of_block K13.out)).trans K13.out)
      clear hb14 O13 K13
      go_wp2_with fail
      refine (show Calls Tryz.prog 13 #[.pointer none, .int .i64 0, .agg #[.int .i64 0, .int .i64 0, .int .i64 0, .int .i64 0, .slice none 0 0, .slice none 0 0, .slice none 0 0, .slice none 0 0, .slice none 0 0], .agg #[.slice none 0 0, .slice none 0 0, .slice none 0 0, .slice none 0 0]] w14 _ from write_refused _ none 0 0 0 0 0 [] 4 (by decide) (fun W _ => file_zero W)).mono ?_
      rintro e w15 ⟨rfl, hb15⟩
      have O15 := Lib.hid (O14.out.pure hb15)
      have k15 := (hb15.block _ (lt_of_block K14.out)).trans K14.out
      have K15 := Lib.hid k15
      have d0 : w15.cell? ⟨bx, 0, none⟩ = some (.int .i64 0) := (cell_of_row _ _ 0 _ _ _ k15).trans rfl
      have d1 : w15.cell? ⟨bx, 1, none⟩ = some (.int .i64 0) := (cell_of_row _ _ 1 _ _ _ k15).trans rfl
      have d2 : w15.cell? ⟨bx, 2, none⟩ = some (.int .i64 1) := (cell_of_row _ _ 2 _ _ _ k15).trans rfl
      have d3 : w15.cell? ⟨bx, 3, none⟩ = some (.int .i64 1) := (cell_of_row _ _ 3 _ _ _ k15).trans rfl
      have d4 : w15.cell? ⟨bx, 4, none⟩ = some (.slice none 0 0) := (cell_of_row _ _ 4 _ _ _ k15).trans rfl
      have d5 : w15.cell? ⟨bx, 5, none⟩ = some (.slice none 0 0) := (cell_of_row _ _ 5 _ _ _ k15).trans rfl
      have d6 : w15.cell? ⟨bx, 6, none⟩ = some (.slice none 0 0) := (cell_of_row _ _ 6 _ _ _ k15).trans rfl
      have d7 : w15.cell? ⟨bx, 7, none⟩ = some (.slice none 0 0) := (cell_of_row _ _ 7 _ _ _ k15).trans rfl
      have d8 : w15.cell? ⟨bx, 8, none⟩ = some (.slice none 0 0) := (cell_of_row _ _ 8 _ _ _ k15).trans rfl
      clear hb15 k15 O14 K14
      go_wp2_with fail
      refine (show Calls Tryz.prog 13 #[.pointer none, .int .i64 0, .agg #[.int .i64 0, .int .i64 0, .int .i64 1, .int .i64 1, .slice none 0 0, .slice none 0 0, .slice none 0 0, .slice none 0 0, .slice none 0 0], .agg #[.slice none 0 0, .slice none 0 0, .slice none 0 0, .slice none 0 0]] w15 _ from write_nil _ 0 0 0 1 1 (emptyF 0 0) (files_tell _ 0 0 (by omega) (by omega))).mono ?_
      rintro e w16 ⟨rfl, hb16⟩
      have O16 := Lib.hid (O15.out.pure hb16)
      have k16 := (hb16.block _ (lt_of_block K15.out)).trans K15.out
      clear d0 d1 d2 d3 d4 d5 d6 d7 d8
      have d0 : w16.cell? ⟨bx, 0, none⟩ = some (.int .i64 0) := (cell_of_row _ _ 0 _ _ _ k16).trans rfl
      have d1 : w16.cell? ⟨bx, 1, none⟩ = some (.int .i64 0) := (cell_of_row _ _ 1 _ _ _ k16).trans rfl
      have d2 : w16.cell? ⟨bx, 2, none⟩ = some (.int .i64 1) := (cell_of_row _ _ 2 _ _ _ k16).trans rfl
      have d3 : w16.cell? ⟨bx, 3, none⟩ = some (.int .i64 1) := (cell_of_row _ _ 3 _ _ _ k16).trans rfl
      have d4 : w16.cell? ⟨bx, 4, none⟩ = some (.slice none 0 0) := (cell_of_row _ _ 4 _ _ _ k16).trans rfl
      have d5 : w16.cell? ⟨bx, 5, none⟩ = some (.slice none 0 0) := (cell_of_row _ _ 5 _ _ _ k16).trans rfl
      have d6 : w16.cell? ⟨bx, 6, none⟩ = some (.slice none 0 0) := (cell_of_row _ _ 6 _ _ _ k16).trans rfl
      have d7 : w16.cell? ⟨bx, 7, none⟩ = some (.slice none 0 0) := (cell_of_row _ _ 7 _ _ _ k16).trans rfl
      have d8 : w16.cell? ⟨bx, 8, none⟩ = some (.slice none 0 0) := (cell_of_row _ _ 8 _ _ _ k16).trans rfl
      clear hb16 k16 O15 K15
      go_wp2_with fail
      refine (show Calls Tryz.prog 13 #[.pointer (some ⟨p, 0, none⟩), .int .i64 1048576, .agg #[.int .i64 0, .int .i64 0, .int .i64 1, .int .i64 1, .slice none 0 0, .slice none 0 0, .slice none 0 0, .slice none 0 0, .slice none 0 0], .agg #[.slice none 0 0, .slice none 0 0, .slice none 0 0, .slice none 0 0]] w16 _ from own_write O16.out HL.out 1048576 0 (by omega) (by omega)).mono ?_
      rintro e w17 ⟨rfl, o17⟩
      rw [show (dkWrite seT ((1048576 : Nat) : Int) (emptyF 1048576 0, 0)).2 = 0 from se_full]
      have O17 := Lib.hid o17.below
      clear o17 O16 d0 d1 d2 d3 d4 d5 d6 d7 d8
      go_wp2_with fail
      refine (sname_any w17 (HL.out.pure O17.out).pow (-1)).mono ?_
      rintro e w18 ⟨⟨r, hr, rfl⟩, hb18⟩
      have hc18 : (r.toList == []) = true := by rw [ByteArray.toList_eq, hr]; decide
      have O18 := Lib.hid (below_on O17.out hb18)
      clear hr hb18 O17
      go_wp2_with fail
      refine (sname_any w18 (HL.out.pure O18.out).pow 1048577).mono ?_
      rintro e w19 ⟨⟨r2, hr2, rfl⟩, hb19⟩
      have hc19 : (r2.toList == []) = true := by rw [ByteArray.toList_eq, hr2]; decide
      have O19 := Lib.hid (below_on O18.out hb19)
      clear hr2 hb19 O18
      go_wp2
      go_ret
      exact ⟨rfl, O19.out⟩
end Go.Proofs.YteikdcobpfohcaaGreatDoor
