/- The walk of snap.Open, at an empty market's snapshot, and at a text that is too short. -/
import Derived.Test.YteikdcobpfohcaaGreatDoorMkSnO
import Derived.Test.YteikdcobpfohcaaGreatDoorMFi
namespace Go.Proofs.YteikdcobpfohcaaGreatDoor
open Go.RowKit

theorem seal_sealed (l : List UInt8) : Sealed (Crc.seal_ l) := by
  refine ⟨by rw [Crc.seal_length]; omega, ?_⟩
  rw [Crc.seal_length, Nat.add_sub_cancel]
  unfold Crc.seal_
  rw [List.take_left']
  rfl
theorem take_mid {A B C : List UInt8} {k n : Nat} (hA : A.length = k) (hB : B.length = n) : (⟨k, 0, 0⟩ : RdSt).take (A ++ (B ++ C)) n = (B, true, ⟨k + n, 0, 0⟩) := by
  unfold RdSt.take
  rw [if_neg (by simp), if_neg (by simp [hA, hB])]
  simp only
  rw [List.drop_left' hA, List.take_left' hB]
/-- What a snapshot seals. -/
def snapX (q c : Nat) : List UInt8 := [115, 110, 112, 49] ++ be 8 q ++ be 4 (emptyB c).length ++ emptyB c
theorem snapX_len (q c : Nat) : (snapX q c).length = 29 := by unfold snapX; simp [be_length]; rfl
theorem snapX_0 (q c : Nat) : (⟨0, 0, 0⟩ : RdSt).take (snapX q c) 4 = ([115, 110, 112, 49], true, ⟨4, 0, 0⟩) := by
  have := take_mid (A := []) (B := [115, 110, 112, 49]) (C := be 8 q ++ (be 4 (emptyB c).length ++ emptyB c)) (k := 0) (n := 4) rfl rfl
  unfold snapX
  simpa using this
theorem snapX_4 (q c : Nat) (hq : q ≤ 1048576) : (⟨4, 0, 0⟩ : RdSt).fixed (snapX q c) 8 = (q, ⟨12, 0, 0⟩) := by
  have := take_mid (A := [115, 110, 112, 49]) (B := be 8 q) (C := be 4 (emptyB c).length ++ emptyB c) (k := 4) (n := 8) rfl (be_length 8 q)
  unfold RdSt.fixed
  rw [show snapX q c = [115, 110, 112, 49] ++ (be 8 q ++ (be 4 (emptyB c).length ++ emptyB c)) from by unfold snapX; simp, this]
  simp only
  rw [val_be 8 q (by omega)]
theorem snapX_12 (q c : Nat) : (⟨12, 0, 0⟩ : RdSt).fixed (snapX q c) 4 = (13, ⟨16, 0, 0⟩) := by
  have := take_mid (A := [115, 110, 112, 49] ++ be 8 q) (B := be 4 (emptyB c).length) (C := emptyB c) (k := 12) (n := 4) (by simp [be_length]) (be_length 4 _)
  unfold RdSt.fixed
  rw [show snapX q c = ([115, 110, 112, 49] ++ be 8 q) ++ (be 4 (emptyB c).length ++ emptyB c) from by unfold snapX; simp, this]
  simp only
  rw [val_be 4 _ (by show 13 < _; decide)]
  rfl
theorem snapX_drop (q c : Nat) : (snapX q c).drop 16 = emptyB c := by
  unfold snapX
  rw [List.drop_left' (by simp [be_length])]
-- more
set_option maxRecDepth 100000 in
set_option maxHeartbeats 4000000 in
theorem sopen_ok (q c : Nat) (hq : q ≤ 1048576) (hc : c < 128) (w : World) (s : ByteArray) (hs : s.data.toList = emptyF q c) :
    Calls Tryz.prog 29 #[.string s] w fun e w' => e = .returned (.tuple #[.int .i64 (q : Int), stV (c : Int) 0 1 1, viewsV, .int .i64 0]) ∧ Below w.heap.size w w' := by
  have hz : s.size = 33 := by rw [size_of_list hs]; show (Crc.seal_ (snapX q c)).length = 33; rw [Crc.seal_length, snapX_len]
  have HS := Lib.hid hs
  clear hs
  go_enter Tryz.func29, Tryz.ntmps29
  go_wp2_with fail
  obtain ⟨n, hn⟩ : ∃ n, n = w.heap.size := ⟨_, rfl⟩
  obtain ⟨W0, hW0⟩ : ∃ W0, W0 = (w.alloc (.cells #[.int .i64 0, .int .i64 0, .int .i64 0, .int .i64 0, .slice none 0 0, .slice none 0 0, .slice none 0 0, .slice none 0 0, .slice none 0 0] 36)).alloc (.cells #[.slice none 0 0, .slice none 0 0, .slice none 0 0, .slice none 0 0] 42) := ⟨_, rfl⟩
  have hbel : Below w.heap.size w W0 := by rw [hW0]; exact ((Below.refl _ _).alloc (Nat.le_refl _) _).alloc (by simp) _
  have k0 : W0.heap[n]? = some (.cells #[.int .i64 0, .int .i64 0, .int .i64 0, .int .i64 0, .slice none 0 0, .slice none 0 0, .slice none 0 0, .slice none 0 0, .slice none 0 0] 36 (0, 0)) := by rw [hW0, hn]; exact (Below.heap_alloc _ _ _ (by simp <;> omega)).trans (heap_alloc_new _ _)
  have k1 : W0.heap[n + 1]? = some (.cells #[.slice none 0 0, .slice none 0 0, .slice none 0 0, .slice none 0 0] 42 (0, 0)) := by rw [hW0, hn]; exact alloc_topY _ _ (by simp)
  have K0 := Lib.hid k0
  have K1 := Lib.hid k1
  have HB := Lib.hid hbel
  have HN := Lib.hid hn
  rw [← hW0, ← hn]
  clear hW0 hn k0 k1 hbel
  refine (open_sealed s W0 (by unfold maxLen; omega) (by rw [HS.out]; exact seal_sealed _)).mono ?_
  rintro e w1 ⟨t, ht, rfl, hb1⟩
  have htx : t.data.toList = snapX q c := by
    rw [ht, HS.out, hz]
    show (Crc.seal_ (snapX q c)).take 29 = _
    unfold Crc.seal_
    rw [List.take_left' (snapX_len q c)]
  have htz : t.size = 29 := by rw [size_of_list htx]; exact snapX_len q c
  have HT := Lib.hid htx
  have B1 := Lib.hid hb1
  clear ht htx hb1
  go_wp2_with fail
  refine (rd_new t w1 (by omega)).mono ?_
  rintro e w2 ⟨rfl, hr2, hb2⟩
  obtain ⟨p, hp⟩ : ∃ p, p = w1.heap.size := ⟨_, rfl⟩
  rw [← hp] at hr2 ⊢
  have hpn : n + 1 < p := by have := lt_of_block K1.out; have := B1.out.size; omega
  have R2 := Lib.hid hr2
  have F2 := Lib.hid (show Fr (fun k => k = p) W0 w2 from Fr.pure (below_on B1.out hb2))
  clear hr2 hb2 hp
  go_wp2_with fail
  refine (rd_raw w2 p t _ R2.out 4 (by omega)).mono ?_
  rw [HT.out, snapX_0]
  rintro e w3 ⟨r, hr, rfl, hr3, hf3⟩
  have hcmp : (r.toList == [115, 110, 112, 49]) = true := by rw [ByteArray.toList_eq, hr]; decide
  have hrz : r.size = 4 := by rw [size_of_list hr]; rfl
  have R3 := Lib.hid hr3
  have F3 := Lib.hid (F2.out.trans hf3)
  have HR := Lib.hid hr
  clear hr hr3 hf3
  go_wp2_with fail
  refine (rd_u64 w3 p t _ R3.out).mono ?_
  rw [HT.out, snapX_4 q c hq]
  rintro e w4 ⟨rfl, hr4, hf4⟩
  have R4 := Lib.hid hr4
  have F4 := Lib.hid (F3.out.trans hf4)
  clear hr4 hf4
  go_wp2_with fail
  refine (rd_u32 w4 p t _ R4.out).mono ?_
  rw [HT.out, snapX_12 q c]
  rintro e w5 ⟨rfl, hr5, hf5⟩
  have R5 := Lib.hid hr5
  have F5 := Lib.hid (F4.out.trans hf5)
  clear hr5 hf5
  go_wp2_with fail
  refine (rd_err w5 p t _ R5.out).mono ?_
  rintro e w6 ⟨rfl, n6, rfl⟩
  go_wp2_with fail
  refine (rd_left _ p t _ (R5.out.drewN _)).mono ?_
  rintro e w7 ⟨rfl, n7, rfl⟩
  obtain ⟨W7, hW7⟩ : ∃ W7, W7 = (w5.drewN n6).drewN n7 := ⟨_, rfl⟩
  have F7 := Lib.hid (show Fr (fun k => k = p) W0 W7 from by rw [hW7]; exact (F5.out.drewN _).drewN _)
  rw [← hW7]
  clear hW7 R5
  go_wp2_with fail
  refine (read0 c hc W7 (t.extract 16 29) (by rw [cut_list, HT.out, snapX_drop]; rfl)).mono ?_
  rintro e w8 ⟨rfl, hb8⟩
  have F8 := Lib.hid (F7.out.andPure hb8)
  have hl8 : n + 1 < w8.heap.size := by have := lt_of_block K1.out; have := F8.out.size; omega
  clear hb8
  unfold stV viewsV
  go_wp2
  obtain ⟨W9, hW9⟩ : ∃ W9, W9 = (w8.alloc (.cells #[.int .i64 (c : Int), .int .i64 0, .int .i64 1, .int .i64 1, .slice none 0 0, .slice none 0 0, .slice none 0 0, .slice none 0 0, .slice none 0 0] 36)).alloc (.cells #[.slice none 0 0, .slice none 0 0, .slice none 0 0, .slice none 0 0] 42) := ⟨_, rfl⟩
  have hb9 : Below w8.heap.size w8 W9 := by rw [hW9]; exact ((Below.refl _ _).alloc (Nat.le_refl _) _).alloc (by simp) _
  have F9 := Lib.hid (F8.out.andPure hb9)
  have P9 := Lib.hid (F9.out.heapAt K0.out (by omega))
  have Q9 := Lib.hid (F9.out.heapAt K1.out (by omega))
  have ks : W9.heap[w8.heap.size]? = some (.cells #[.int .i64 (c : Int), .int .i64 0, .int .i64 1, .int .i64 1, .slice none 0 0, .slice none 0 0, .slice none 0 0, .slice none 0 0, .slice none 0 0] 36 (0, 0)) := by rw [hW9]; exact (Below.heap_alloc _ _ _ (by simp)).trans (heap_alloc_new _ _)
  have kv : W9.heap[w8.heap.size + 1]? = some (.cells #[.slice none 0 0, .slice none 0 0, .slice none 0 0, .slice none 0 0] 42 (0, 0)) := by rw [hW9]; exact alloc_topY _ _ (by simp)
  rw [← hW9]
  clear hW9 hb9
  have x0 := (cell_of_row _ w8.heap.size 0 _ _ _ (ks)).trans (show _ = some (.int .i64 (c : Int)) from rfl)
  have x1 := (cell_of_row _ w8.heap.size 1 _ _ _ (ks)).trans (show _ = some (.int .i64 0) from rfl)
  have x2 := (cell_of_row _ w8.heap.size 2 _ _ _ (ks)).trans (show _ = some (.int .i64 1) from rfl)
  have x3 := (cell_of_row _ w8.heap.size 3 _ _ _ (ks)).trans (show _ = some (.int .i64 1) from rfl)
  have x4 := (cell_of_row _ w8.heap.size 4 _ _ _ (ks)).trans (show _ = some (.slice none 0 0) from rfl)
  have x5 := (cell_of_row _ w8.heap.size 5 _ _ _ (ks)).trans (show _ = some (.slice none 0 0) from rfl)
  have x6 := (cell_of_row _ w8.heap.size 6 _ _ _ (ks)).trans (show _ = some (.slice none 0 0) from rfl)
  have x7 := (cell_of_row _ w8.heap.size 7 _ _ _ (ks)).trans (show _ = some (.slice none 0 0) from rfl)
  have x8 := (cell_of_row _ w8.heap.size 8 _ _ _ (ks)).trans (show _ = some (.slice none 0 0) from rfl)
  have y0 := (cell_of_row _ (w8.heap.size + 1) 0 _ _ _ (kv)).trans (show _ = some (.slice none 0 0) from rfl)
  have y1 := (cell_of_row _ (w8.heap.size + 1) 1 _ _ _ (kv)).trans (show _ = some (.slice none 0 0) from rfl)
  have y2 := (cell_of_row _ (w8.heap.size + 1) 2 _ _ _ (kv)).trans (show _ = some (.slice none 0 0) from rfl)
  have y3 := (cell_of_row _ (w8.heap.size + 1) 3 _ _ _ (kv)).trans (show _ = some (.slice none 0 0) from rfl)
  have p0 := (cell_of_row _ n 0 _ _ _ (P9.out)).trans (show _ = some (.int .i64 0) from rfl)
  have pf0 := frozen_of_row _ n 0 _ _ (P9.out)
  have p1 := (cell_of_row _ n 1 _ _ _ (P9.out)).trans (show _ = some (.int .i64 0) from rfl)
  have pf1 := frozen_of_row _ n 1 _ _ (P9.out)
  have p2 := (cell_of_row _ n 2 _ _ _ (P9.out)).trans (show _ = some (.int .i64 0) from rfl)
  have pf2 := frozen_of_row _ n 2 _ _ (P9.out)
  have p3 := (cell_of_row _ n 3 _ _ _ (P9.out)).trans (show _ = some (.int .i64 0) from rfl)
  have pf3 := frozen_of_row _ n 3 _ _ (P9.out)
  have p4 := (cell_of_row _ n 4 _ _ _ (P9.out)).trans (show _ = some (.slice none 0 0) from rfl)
  have pf4 := frozen_of_row _ n 4 _ _ (P9.out)
  have p5 := (cell_of_row _ n 5 _ _ _ (P9.out)).trans (show _ = some (.slice none 0 0) from rfl)
  have pf5 := frozen_of_row _ n 5 _ _ (P9.out)
  have p6 := (cell_of_row _ n 6 _ _ _ (P9.out)).trans (show _ = some (.slice none 0 0) from rfl)
  have pf6 := frozen_of_row _ n 6 _ _ (P9.out)
  have p7 := (cell_of_row _ n 7 _ _ _ (P9.out)).trans (show _ = some (.slice none 0 0) from rfl)
  have pf7 := frozen_of_row _ n 7 _ _ (P9.out)
  have p8 := (cell_of_row _ n 8 _ _ _ (P9.out)).trans (show _ = some (.slice none 0 0) from rfl)
  have pf8 := frozen_of_row _ n 8 _ _ (P9.out)
  have q0 := (cell_of_row _ (n + 1) 0 _ _ _ (Q9.out)).trans (show _ = some (.slice none 0 0) from rfl)
  have qf0 := frozen_of_row _ (n + 1) 0 _ _ (Q9.out)
  have q1 := (cell_of_row _ (n + 1) 1 _ _ _ (Q9.out)).trans (show _ = some (.slice none 0 0) from rfl)
  have qf1 := frozen_of_row _ (n + 1) 1 _ _ (Q9.out)
  have q2 := (cell_of_row _ (n + 1) 2 _ _ _ (Q9.out)).trans (show _ = some (.slice none 0 0) from rfl)
  have qf2 := frozen_of_row _ (n + 1) 2 _ _ (Q9.out)
  have q3 := (cell_of_row _ (n + 1) 3 _ _ _ (Q9.out)).trans (show _ = some (.slice none 0 0) from rfl)
  have qf3 := frozen_of_row _ (n + 1) 3 _ _ (Q9.out)
  have hwq : IntKind.i64.wrap (q : Int) = (q : Int) := by rw [IntKind.wrap_i64]; omega
  go_region
  go_wp2
  obtain ⟨Wa, hWa⟩ : ∃ Wa, Wa = set9 W9 n (.int .i64 (c : Int)) (.int .i64 0) (.int .i64 1) (.int .i64 1) (.slice none 0 0) (.slice none 0 0) (.slice none 0 0) (.slice none 0 0) (.slice none 0 0) := ⟨_, rfl⟩
  obtain ⟨Wb, hWb⟩ : ∃ Wb, Wb = set4 Wa (n + 1) (.slice none 0 0) (.slice none 0 0) (.slice none 0 0) (.slice none 0 0) := ⟨_, rfl⟩
  have fa : Fr (fun k => k = n) W9 Wa := by rw [hWa]; exact set9_fr W9 n (.int .i64 (c : Int)) (.int .i64 0) (.int .i64 1) (.int .i64 1) (.slice none 0 0) (.slice none 0 0) (.slice none 0 0) (.slice none 0 0) (.slice none 0 0)
  have fb : Fr (fun k => k = n + 1) Wa Wb := by rw [hWb]; exact set4_fr Wa (n + 1) (.slice none 0 0) (.slice none 0 0) (.slice none 0 0) (.slice none 0 0)
  have ra : Wa.heap[n]? = some (.cells #[.int .i64 (c : Int), .int .i64 0, .int .i64 1, .int .i64 1, .slice none 0 0, .slice none 0 0, .slice none 0 0, .slice none 0 0, .slice none 0 0] 36 (0, 0)) := by rw [hWa]; exact set9_row (.int .i64 (c : Int)) (.int .i64 0) (.int .i64 1) (.int .i64 1) (.slice none 0 0) (.slice none 0 0) (.slice none 0 0) (.slice none 0 0) (.slice none 0 0) P9.out
  have rb : Wb.heap[n + 1]? = some (.cells #[.slice none 0 0, .slice none 0 0, .slice none 0 0, .slice none 0 0] 42 (0, 0)) := by rw [hWb]; exact set4_row (.slice none 0 0) (.slice none 0 0) (.slice none 0 0) (.slice none 0 0) (fa.heapAt Q9.out (by omega))
  obtain ⟨Wf, hWf⟩ : ∃ Wf, Wf = Wb.drew := ⟨_, rfl⟩
  have rowS : Wf.heap[n]? = some (.cells #[.int .i64 (c : Int), .int .i64 0, .int .i64 1, .int .i64 1, .slice none 0 0, .slice none 0 0, .slice none 0 0, .slice none 0 0, .slice none 0 0] 36 (0, 0)) := by rw [hWf]; exact fb.heapAt ra (by omega)
  have rowV : Wf.heap[n + 1]? = some (.cells #[.slice none 0 0, .slice none 0 0, .slice none 0 0, .slice none 0 0] 42 (0, 0)) := by rw [hWf]; exact rb
  have hfr : Fr (fun k => k = n ∨ k = n + 1) W9 Wf := by rw [hWf]; exact (((fa.mono (fun _ _ e => .inl e)).trans (fb.mono (fun _ _ e => .inr e)))).drew
  clear fa fb ra rb
  have o0 := (cell_of_row _ n 0 _ _ _ (rowS)).trans (show _ = some (.int .i64 (c : Int)) from rfl)
  have o1 := (cell_of_row _ n 1 _ _ _ (rowS)).trans (show _ = some (.int .i64 0) from rfl)
  have o2 := (cell_of_row _ n 2 _ _ _ (rowS)).trans (show _ = some (.int .i64 1) from rfl)
  have o3 := (cell_of_row _ n 3 _ _ _ (rowS)).trans (show _ = some (.int .i64 1) from rfl)
  have o4 := (cell_of_row _ n 4 _ _ _ (rowS)).trans (show _ = some (.slice none 0 0) from rfl)
  have o5 := (cell_of_row _ n 5 _ _ _ (rowS)).trans (show _ = some (.slice none 0 0) from rfl)
  have o6 := (cell_of_row _ n 6 _ _ _ (rowS)).trans (show _ = some (.slice none 0 0) from rfl)
  have o7 := (cell_of_row _ n 7 _ _ _ (rowS)).trans (show _ = some (.slice none 0 0) from rfl)
  have o8 := (cell_of_row _ n 8 _ _ _ (rowS)).trans (show _ = some (.slice none 0 0) from rfl)
  have u0 := (cell_of_row _ (n + 1) 0 _ _ _ (rowV)).trans (show _ = some (.slice none 0 0) from rfl)
  have u1 := (cell_of_row _ (n + 1) 1 _ _ _ (rowV)).trans (show _ = some (.slice none 0 0) from rfl)
  have u2 := (cell_of_row _ (n + 1) 2 _ _ _ (rowV)).trans (show _ = some (.slice none 0 0) from rfl)
  have u3 := (cell_of_row _ (n + 1) 3 _ _ _ (rowV)).trans (show _ = some (.slice none 0 0) from rfl)
  unfold set9 at hWa
  unfold set4 at hWb
  rw [← hWa, ← hWb, ← hWf]
  clear hWa hWb hWf
  refine bodyPost_ret (v := .tuple #[.int .i64 (q : Int), .agg #[.int .i64 (c : Int), .int .i64 0, .int .i64 1, .int .i64 1, .slice none 0 0, .slice none 0 0, .slice none 0 0, .slice none 0 0, .slice none 0 0], .agg #[.slice none 0 0, .slice none 0 0, .slice none 0 0, .slice none 0 0], .int .i64 0]) (by simp [results, Tryz.results29, go_sem, o0, o1, o2, o3, o4, o5, o6, o7, o8, u0, u1, u2, u3]) rfl ⟨rfl, ?_⟩
  have hnw := HN.out
  exact HB.out.trans ((F9.out.below (B := w.heap.size) HB.out.size (fun k hk e => by omega)).trans (hfr.below (B := w.heap.size) (by have := HB.out.size; have := F9.out.size; omega) (fun k hk e => by omega)))

def stZ : Value := .agg #[.int .i64 0, .int .i64 0, .int .i64 0, .int .i64 0, .slice none 0 0, .slice none 0 0, .slice none 0 0, .slice none 0 0, .slice none 0 0]
set_option maxRecDepth 100000 in
set_option maxHeartbeats 2000000 in
theorem none_any (x : Int) (w : World) : Calls Tryz.prog 52 #[.int .i64 x] w fun e w' => e = .returned (.tuple #[.int .i64 0, stZ, viewsV, .int .i64 x]) ∧ Below w.heap.size w w' := by
  go_enter Tryz.func52, Tryz.ntmps52
  go_wp2
  obtain ⟨n, hn⟩ : ∃ n, n = w.heap.size := ⟨_, rfl⟩
  obtain ⟨W0, hW0⟩ : ∃ W0, W0 = (w.alloc (.cells #[.int .i64 0, .int .i64 0, .int .i64 0, .int .i64 0, .slice none 0 0, .slice none 0 0, .slice none 0 0, .slice none 0 0, .slice none 0 0] 36)).alloc (.cells #[.slice none 0 0, .slice none 0 0, .slice none 0 0, .slice none 0 0] 42) := ⟨_, rfl⟩
  have hbel : Below w.heap.size w W0 := by rw [hW0]; exact ((Below.refl _ _).alloc (Nat.le_refl _) _).alloc (by simp) _
  have k0 : W0.heap[n]? = some (.cells #[.int .i64 0, .int .i64 0, .int .i64 0, .int .i64 0, .slice none 0 0, .slice none 0 0, .slice none 0 0, .slice none 0 0, .slice none 0 0] 36 (0, 0)) := by rw [hW0, hn]; exact (Below.heap_alloc _ _ _ (by simp <;> omega)).trans (heap_alloc_new _ _)
  have k1 : W0.heap[n + 1]? = some (.cells #[.slice none 0 0, .slice none 0 0, .slice none 0 0, .slice none 0 0] 42 (0, 0)) := by rw [hW0, hn]; exact alloc_topY _ _ (by simp)
  rw [← hW0, ← hn]
  have o0 := (cell_of_row _ n 0 _ _ _ (k0)).trans (show _ = some (.int .i64 0) from rfl)
  have o1 := (cell_of_row _ n 1 _ _ _ (k0)).trans (show _ = some (.int .i64 0) from rfl)
  have o2 := (cell_of_row _ n 2 _ _ _ (k0)).trans (show _ = some (.int .i64 0) from rfl)
  have o3 := (cell_of_row _ n 3 _ _ _ (k0)).trans (show _ = some (.int .i64 0) from rfl)
  have o4 := (cell_of_row _ n 4 _ _ _ (k0)).trans (show _ = some (.slice none 0 0) from rfl)
  have o5 := (cell_of_row _ n 5 _ _ _ (k0)).trans (show _ = some (.slice none 0 0) from rfl)
  have o6 := (cell_of_row _ n 6 _ _ _ (k0)).trans (show _ = some (.slice none 0 0) from rfl)
  have o7 := (cell_of_row _ n 7 _ _ _ (k0)).trans (show _ = some (.slice none 0 0) from rfl)
  have o8 := (cell_of_row _ n 8 _ _ _ (k0)).trans (show _ = some (.slice none 0 0) from rfl)
  have u0 := (cell_of_row _ (n + 1) 0 _ _ _ (k1)).trans (show _ = some (.slice none 0 0) from rfl)
  have u1 := (cell_of_row _ (n + 1) 1 _ _ _ (k1)).trans (show _ = some (.slice none 0 0) from rfl)
  have u2 := (cell_of_row _ (n + 1) 2 _ _ _ (k1)).trans (show _ = some (.slice none 0 0) from rfl)
  have u3 := (cell_of_row _ (n + 1) 3 _ _ _ (k1)).trans (show _ = some (.slice none 0 0) from rfl)
  clear hW0
  exact bodyPost_ret (v := .tuple #[.int .i64 0, .agg #[.int .i64 0, .int .i64 0, .int .i64 0, .int .i64 0, .slice none 0 0, .slice none 0 0, .slice none 0 0, .slice none 0 0, .slice none 0 0], .agg #[.slice none 0 0, .slice none 0 0, .slice none 0 0, .slice none 0 0], .int .i64 x]) (by simp [results, Tryz.results52, go_sem, o0, o1, o2, o3, o4, o5, o6, o7, o8, u0, u1, u2, u3]) rfl ⟨rfl, by rw [hn]; exact hbel⟩

set_option maxRecDepth 100000 in
set_option maxHeartbeats 2000000 in
theorem sopen_short (w : World) (s : ByteArray) (hs : s.size < 4) :
    Calls Tryz.prog 29 #[.string s] w fun e w' => e = .returned (.tuple #[.int .i64 0, stZ, viewsV, .int .i64 8]) ∧ Below w.heap.size w w' := by
  have he : ∀ (args : Array Value) (w : World), (callFunc 52 args).run Tryz.prog w = .ok (.enter 52 args) w := enters_of Tryz.func52 (by kernel_rfl) rfl
  go_enter Tryz.func29, Tryz.ntmps29
  go_wp2_with fail
  obtain ⟨n, hn⟩ : ∃ n, n = w.heap.size := ⟨_, rfl⟩
  obtain ⟨W0, hW0⟩ : ∃ W0, W0 = (w.alloc (.cells #[.int .i64 0, .int .i64 0, .int .i64 0, .int .i64 0, .slice none 0 0, .slice none 0 0, .slice none 0 0, .slice none 0 0, .slice none 0 0] 36)).alloc (.cells #[.slice none 0 0, .slice none 0 0, .slice none 0 0, .slice none 0 0] 42) := ⟨_, rfl⟩
  have hbel : Below w.heap.size w W0 := by rw [hW0]; exact ((Below.refl _ _).alloc (Nat.le_refl _) _).alloc (by simp) _
  have k0 : W0.heap[n]? = some (.cells #[.int .i64 0, .int .i64 0, .int .i64 0, .int .i64 0, .slice none 0 0, .slice none 0 0, .slice none 0 0, .slice none 0 0, .slice none 0 0] 36 (0, 0)) := by rw [hW0, hn]; exact (Below.heap_alloc _ _ _ (by simp <;> omega)).trans (heap_alloc_new _ _)
  have k1 : W0.heap[n + 1]? = some (.cells #[.slice none 0 0, .slice none 0 0, .slice none 0 0, .slice none 0 0] 42 (0, 0)) := by rw [hW0, hn]; exact alloc_topY _ _ (by simp)
  have K0 := Lib.hid k0
  have K1 := Lib.hid k1
  have HB := Lib.hid hbel
  have HN := Lib.hid hn
  rw [← hW0, ← hn]
  clear hW0 hn k0 k1 hbel
  refine (open_short s W0 hs).mono ?_
  rintro e w1 ⟨rfl, rfl⟩
  go_wp2_with fail
  refine (none_any 8 _).mono ?_
  rintro e w2 ⟨rfl, hb2⟩
  have P9 := Lib.hid ((hb2.block _ (lt_of_block K0.out)).trans K0.out)
  have Q9 := Lib.hid ((hb2.block _ (lt_of_block K1.out)).trans K1.out)
  have HB2 := Lib.hid hb2
  have p0 := (cell_of_row _ n 0 _ _ _ (P9.out)).trans (show _ = some (.int .i64 0) from rfl)
  have pf0 := frozen_of_row _ n 0 _ _ (P9.out)
  have p1 := (cell_of_row _ n 1 _ _ _ (P9.out)).trans (show _ = some (.int .i64 0) from rfl)
  have pf1 := frozen_of_row _ n 1 _ _ (P9.out)
  have p2 := (cell_of_row _ n 2 _ _ _ (P9.out)).trans (show _ = some (.int .i64 0) from rfl)
  have pf2 := frozen_of_row _ n 2 _ _ (P9.out)
  have p3 := (cell_of_row _ n 3 _ _ _ (P9.out)).trans (show _ = some (.int .i64 0) from rfl)
  have pf3 := frozen_of_row _ n 3 _ _ (P9.out)
  have p4 := (cell_of_row _ n 4 _ _ _ (P9.out)).trans (show _ = some (.slice none 0 0) from rfl)
  have pf4 := frozen_of_row _ n 4 _ _ (P9.out)
  have p5 := (cell_of_row _ n 5 _ _ _ (P9.out)).trans (show _ = some (.slice none 0 0) from rfl)
  have pf5 := frozen_of_row _ n 5 _ _ (P9.out)
  have p6 := (cell_of_row _ n 6 _ _ _ (P9.out)).trans (show _ = some (.slice none 0 0) from rfl)
  have pf6 := frozen_of_row _ n 6 _ _ (P9.out)
  have p7 := (cell_of_row _ n 7 _ _ _ (P9.out)).trans (show _ = some (.slice none 0 0) from rfl)
  have pf7 := frozen_of_row _ n 7 _ _ (P9.out)
  have p8 := (cell_of_row _ n 8 _ _ _ (P9.out)).trans (show _ = some (.slice none 0 0) from rfl)
  have pf8 := frozen_of_row _ n 8 _ _ (P9.out)
  have q0 := (cell_of_row _ (n + 1) 0 _ _ _ (Q9.out)).trans (show _ = some (.slice none 0 0) from rfl)
  have qf0 := frozen_of_row _ (n + 1) 0 _ _ (Q9.out)
  have q1 := (cell_of_row _ (n + 1) 1 _ _ _ (Q9.out)).trans (show _ = some (.slice none 0 0) from rfl)
  have qf1 := frozen_of_row _ (n + 1) 1 _ _ (Q9.out)
  have q2 := (cell_of_row _ (n + 1) 2 _ _ _ (Q9.out)).trans (show _ = some (.slice none 0 0) from rfl)
  have qf2 := frozen_of_row _ (n + 1) 2 _ _ (Q9.out)
  have q3 := (cell_of_row _ (n + 1) 3 _ _ _ (Q9.out)).trans (show _ = some (.slice none 0 0) from rfl)
  have qf3 := frozen_of_row _ (n + 1) 3 _ _ (Q9.out)
  clear hb2
  unfold stZ viewsV
  go_wp2
  obtain ⟨Wa, hWa⟩ : ∃ Wa, Wa = set9 w2 n (.int .i64 0) (.int .i64 0) (.int .i64 0) (.int .i64 0) (.slice none 0 0) (.slice none 0 0) (.slice none 0 0) (.slice none 0 0) (.slice none 0 0) := ⟨_, rfl⟩
  obtain ⟨Wb, hWb⟩ : ∃ Wb, Wb = set4 Wa (n + 1) (.slice none 0 0) (.slice none 0 0) (.slice none 0 0) (.slice none 0 0) := ⟨_, rfl⟩
  have fa : Fr (fun k => k = n) w2 Wa := by rw [hWa]; exact set9_fr w2 n (.int .i64 0) (.int .i64 0) (.int .i64 0) (.int .i64 0) (.slice none 0 0) (.slice none 0 0) (.slice none 0 0) (.slice none 0 0) (.slice none 0 0)
  have fb : Fr (fun k => k = n + 1) Wa Wb := by rw [hWb]; exact set4_fr Wa (n + 1) (.slice none 0 0) (.slice none 0 0) (.slice none 0 0) (.slice none 0 0)
  have ra : Wa.heap[n]? = some (.cells #[.int .i64 0, .int .i64 0, .int .i64 0, .int .i64 0, .slice none 0 0, .slice none 0 0, .slice none 0 0, .slice none 0 0, .slice none 0 0] 36 (0, 0)) := by rw [hWa]; exact set9_row (.int .i64 0) (.int .i64 0) (.int .i64 0) (.int .i64 0) (.slice none 0 0) (.slice none 0 0) (.slice none 0 0) (.slice none 0 0) (.slice none 0 0) P9.out
  have rb : Wb.heap[n + 1]? = some (.cells #[.slice none 0 0, .slice none 0 0, .slice none 0 0, .slice none 0 0] 42 (0, 0)) := by rw [hWb]; exact set4_row (.slice none 0 0) (.slice none 0 0) (.slice none 0 0) (.slice none 0 0) (fa.heapAt Q9.out (by omega))
  obtain ⟨Wf, hWf⟩ : ∃ Wf, Wf = Wb := ⟨_, rfl⟩
  have rowS : Wf.heap[n]? = some (.cells #[.int .i64 0, .int .i64 0, .int .i64 0, .int .i64 0, .slice none 0 0, .slice none 0 0, .slice none 0 0, .slice none 0 0, .slice none 0 0] 36 (0, 0)) := by rw [hWf]; exact fb.heapAt ra (by omega)
  have rowV : Wf.heap[n + 1]? = some (.cells #[.slice none 0 0, .slice none 0 0, .slice none 0 0, .slice none 0 0] 42 (0, 0)) := by rw [hWf]; exact rb
  have hfr : Fr (fun k => k = n ∨ k = n + 1) w2 Wf := by rw [hWf]; exact ((fa.mono (fun _ _ e => .inl e)).trans (fb.mono (fun _ _ e => .inr e)))
  clear fa fb ra rb
  have o0 := (cell_of_row _ n 0 _ _ _ (rowS)).trans (show _ = some (.int .i64 0) from rfl)
  have o1 := (cell_of_row _ n 1 _ _ _ (rowS)).trans (show _ = some (.int .i64 0) from rfl)
  have o2 := (cell_of_row _ n 2 _ _ _ (rowS)).trans (show _ = some (.int .i64 0) from rfl)
  have o3 := (cell_of_row _ n 3 _ _ _ (rowS)).trans (show _ = some (.int .i64 0) from rfl)
  have o4 := (cell_of_row _ n 4 _ _ _ (rowS)).trans (show _ = some (.slice none 0 0) from rfl)
  have o5 := (cell_of_row _ n 5 _ _ _ (rowS)).trans (show _ = some (.slice none 0 0) from rfl)
  have o6 := (cell_of_row _ n 6 _ _ _ (rowS)).trans (show _ = some (.slice none 0 0) from rfl)
  have o7 := (cell_of_row _ n 7 _ _ _ (rowS)).trans (show _ = some (.slice none 0 0) from rfl)
  have o8 := (cell_of_row _ n 8 _ _ _ (rowS)).trans (show _ = some (.slice none 0 0) from rfl)
  have u0 := (cell_of_row _ (n + 1) 0 _ _ _ (rowV)).trans (show _ = some (.slice none 0 0) from rfl)
  have u1 := (cell_of_row _ (n + 1) 1 _ _ _ (rowV)).trans (show _ = some (.slice none 0 0) from rfl)
  have u2 := (cell_of_row _ (n + 1) 2 _ _ _ (rowV)).trans (show _ = some (.slice none 0 0) from rfl)
  have u3 := (cell_of_row _ (n + 1) 3 _ _ _ (rowV)).trans (show _ = some (.slice none 0 0) from rfl)
  unfold set9 at hWa
  unfold set4 at hWb
  rw [← hWa, ← hWb, ← hWf]
  clear hWa hWb hWf
  refine bodyPost_ret (v := .tuple #[.int .i64 0, .agg #[.int .i64 0, .int .i64 0, .int .i64 0, .int .i64 0, .slice none 0 0, .slice none 0 0, .slice none 0 0, .slice none 0 0, .slice none 0 0], .agg #[.slice none 0 0, .slice none 0 0, .slice none 0 0, .slice none 0 0], .int .i64 8]) (by simp [results, Tryz.results29, go_sem, o0, o1, o2, o3, o4, o5, o6, o7, o8, u0, u1, u2, u3]) rfl ⟨rfl, ?_⟩
  have hnw := HN.out
  exact HB.out.trans ((HB2.out.mono HB.out.size).trans (hfr.below (B := w.heap.size) (by have := HB.out.size; have := HB2.out.size; omega) (fun k hk e => by omega)))
end Go.Proofs.YteikdcobpfohcaaGreatDoor
