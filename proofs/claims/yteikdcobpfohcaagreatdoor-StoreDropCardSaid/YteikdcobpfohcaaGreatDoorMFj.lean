/- The walks of snap.Body and File, where there is nothing but numbers. -/
import Derived.Test.YteikdcobpfohcaaGreatDoorMFg
import Derived.Test.YteikdcobpfohcaaGreatDoorMFh
import Derived.Test.YteikdcobpfohcaaGreatDoorMFi
import Derived.Test.YteikdcobpfohcaaGreatDoorMkRun
import Derived.Test.YteikdcobpfohcaaGreatDoorMFe
import Derived.Test.YteikdcobpfohcaaGreatDoorMAa
namespace Go.Proofs.YteikdcobpfohcaaGreatDoor
open Go.RowKit

theorem wr_below {w w4 : World} {v : Value} {L : List UInt8} (h : WrTo w.heap.size (w.alloc (.cells #[.slice none 0 0] 122)) w4 (.slice none 0 0) v L) : Below w.heap.size w w4 :=
  ((Below.refl _ _).alloc (Nat.le_refl _) _).trans (h.fr.below (B := w.heap.size) (by simp) (fun k hk e => by rcases e with e | e; omega; cases e))
theorem nums_empty (c : Nat) (h : c < 128) : numsB [(c : Int), 0, 1, 1] ++ [0, 0, 0, 0, 0] ++ [0, 0, 0, 0] = emptyB c := by
  have e0 : u64n (c : Int) = c := by unfold u64n; omega
  have e1 : u64n 0 = 0 := rfl
  have e2 : u64n 1 = 1 := rfl
  unfold numsB emptyB
  simp only [List.flatMap_cons, List.flatMap_nil, e0, e1, e2, short_small h, short_small (show 0 < 128 by omega), short_small (show 1 < 128 by omega)]
  rfl

set_option maxRecDepth 100000 in
set_option maxHeartbeats 4000000 in
theorem body0 (c : Nat) (hc : c < 128) (w : World) : Calls Tryz.prog 64 #[stV (c : Int) 0 1 1, viewsV] w fun e w' => (∃ r : ByteArray, r.data.toList = emptyB c ∧ e = .returned (.tuple #[.string r, .int .i64 0])) ∧ Below w.heap.size w w' := by
  have HN := Lib.hid (nums_empty c hc)
  have hn4 := Lib.hid (numsB_len [(c : Int), 0, 1, 1])
  unfold stV viewsV
  go_enter Tryz.func64, Tryz.ntmps64
  go_wp2_with fail
  obtain ⟨n, hn⟩ : ∃ n, n = w.heap.size := ⟨_, rfl⟩
  obtain ⟨W0, hW0⟩ : ∃ W0, W0 = (w.alloc (.cells #[.int .i64 (c : Int), .int .i64 0, .int .i64 1, .int .i64 1, .slice none 0 0, .slice none 0 0, .slice none 0 0, .slice none 0 0, .slice none 0 0] 36)).alloc (.cells #[.slice none 0 0, .slice none 0 0, .slice none 0 0, .slice none 0 0] 42) := ⟨_, rfl⟩
  have hbel : Below w.heap.size w W0 := by rw [hW0]; exact ((Below.refl _ _).alloc (Nat.le_refl _) _).alloc (by simp) _
  have k0 : W0.heap[n]? = some (.cells (stC (c : Int) 0 1 1) 36 (0, 0)) := by rw [hW0, hn]; exact (Below.heap_alloc _ _ _ (by simp)).trans (heap_alloc_new _ _)
  have k1 : W0.heap[n + 1]? = some (.cells #[.slice none 0 0, .slice none 0 0, .slice none 0 0, .slice none 0 0] 42 (0, 0)) := by rw [hW0, hn]; exact alloc_at_top _ _ (by simp)
  rw [← hW0]
  try rw [← hn]
  have K0 := Lib.hid k0
  have K1 := Lib.hid k1
  have HB := Lib.hid hbel
  have HNN := Lib.hid hn
  clear hW0 hn k0 k1 hbel
  refine (show Calls Tryz.prog 97 #[.agg #[.int .i64 (c : Int), .int .i64 0, .int .i64 1, .int .i64 1, .slice none 0 0, .slice none 0 0, .slice none 0 0, .slice none 0 0, .slice none 0 0]] W0 _ from stmay_ok W0 (c : Int) (by omega) (by omega)).mono ?_
  rintro e w1 ⟨rfl, hb1⟩
  have B1 := Lib.hid hb1
  clear hb1
  have HV := Lib.hid (fun (wx : World) (hb : Below W0.heap.size W0 wx) j v (h : (#[.slice none 0 0, .slice none 0 0, .slice none 0 0, .slice none 0 0] : Array Value)[j]? = some v) => ((cell_of_row _ _ _ _ _ _ ((hb.block _ (lt_of_block K1.out)).trans K1.out)).trans h : wx.cell? ⟨n + 1, j, none⟩ = some v))
  have HX := Lib.hid (fun (wx : World) (hb : Below W0.heap.size W0 wx) j v (h : (stC (c : Int) 0 1 1)[j]? = some v) => ((cell_of_row _ _ _ _ _ _ ((hb.block _ (lt_of_block K0.out)).trans K0.out)).trans h : wx.cell? ⟨n, j, none⟩ = some v))
  have y0 := HV.out w1 B1.out 0 _ rfl
  have y1 := HV.out w1 B1.out 1 _ rfl
  have y2 := HV.out w1 B1.out 2 _ rfl
  have y3 := HV.out w1 B1.out 3 _ rfl
  go_wp2_with fail
  refine (show Calls Tryz.prog 98 #[.agg #[.slice none 0 0, .slice none 0 0, .slice none 0 0, .slice none 0 0]] w1 _ from viewsMay0 w1).mono ?_
  rintro e w2 ⟨rfl, hb2⟩
  have B2 := Lib.hid (below_on B1.out hb2)
  clear hb2 y0 y1 y2 y3
  have x0 := HX.out w2 B2.out 0 _ rfl
  have x1 := HX.out w2 B2.out 1 _ rfl
  have x2 := HX.out w2 B2.out 2 _ rfl
  have x3 := HX.out w2 B2.out 3 _ rfl
  have x4 := HX.out w2 B2.out 4 _ rfl
  have x5 := HX.out w2 B2.out 5 _ rfl
  have x6 := HX.out w2 B2.out 6 _ rfl
  have x7 := HX.out w2 B2.out 7 _ rfl
  have x8 := HX.out w2 B2.out 8 _ rfl
  have hlt : n < w2.heap.size := ltOfCell x0
  have hlt1 : n + 1 < w2.heap.size := ltOfCell (HV.out w2 B2.out 0 _ rfl)
  go_wp2_with fail
  refine (show Calls Tryz.prog 100 #[.pointer (some ⟨w2.heap.size, 0, none⟩), .agg #[.int .i64 (c : Int), .int .i64 0, .int .i64 1, .int .i64 1, .slice none 0 0, .slice none 0 0, .slice none 0 0, .slice none 0 0, .slice none 0 0]] _ _ from put0 (c : Int) w2.heap.size (.slice none 0 0) [] _ (IsWr.fresh w2) (by simp)).mono ?_
  rintro e w3 ⟨rfl, v3, h3⟩
  have H3 := Lib.hid h3
  clear h3 x0 x1 x2 x3 x4 x5 x6 x7 x8
  have HV3 := Lib.hid (fun j v (h : (#[.slice none 0 0, .slice none 0 0, .slice none 0 0, .slice none 0 0] : Array Value)[j]? = some v) => (H3.out.cell ((World.cell?_alloc_past _ _ _ hlt1).trans (HV.out w2 B2.out j v h)) (by omega) : w3.cell? ⟨n + 1, j, none⟩ = some v))
  have y0 := HV3.out 0 _ rfl
  have y1 := HV3.out 1 _ rfl
  have y2 := HV3.out 2 _ rfl
  have y3 := HV3.out 3 _ rfl
  go_wp2_with fail
  refine (show Calls Tryz.prog 101 #[.pointer (some ⟨w2.heap.size, 0, none⟩), .agg #[.slice none 0 0, .slice none 0 0, .slice none 0 0, .slice none 0 0]] w3 _ from project0 w2.heap.size v3 _ w3 H3.out.is (by have := hn4.out; simp at this ⊢; omega)).mono ?_
  rintro e w4 ⟨rfl, v4, h4⟩
  have hL : ([] ++ (numsB [(c : Int), 0, 1, 1] ++ [0, 0, 0, 0, 0])) ++ [0, 0, 0, 0] = emptyB c := by rw [List.nil_append]; exact HN.out
  have H4 := Lib.hid (show WrTo w2.heap.size _ w4 (.slice none 0 0) v4 (emptyB c) from by rw [← hL]; exact H3.out.trans h4)
  clear h4 y0 y1 y2 y3 hL
  go_wp2_with fail
  refine (wr_len w2.heap.size v4 (emptyB c) w4 H4.out.is).mono ?_
  rintro e w5 ⟨rfl, rfl⟩
  have hl13 : (emptyB c).length = 13 := rfl
  rw [hl13]
  clear hl13
  go_wp2_with fail
  refine (wr_bytes w2.heap.size v4 (emptyB c) _ H4.out.is).mono ?_
  rintro e w5 ⟨r, hr, rfl, rfl⟩
  have HR := Lib.hid hr
  clear hr
  go_wp2
  go_ret2
  refine ⟨⟨r, HR.out, rfl⟩, HB.out.trans ?_⟩
  have h9 := below_on B2.out (wr_below H4.out)
  exact h9.mono HB.out.size

set_option maxRecDepth 100000 in
set_option maxHeartbeats 4000000 in
theorem file0 (q c : Nat) (hq : q ≤ 1048576) (hc : c < 128) (w : World) : Calls Tryz.prog 32 #[.int .i64 (q : Int), stV (c : Int) 0 1 1, viewsV] w fun e w' => (∃ r : ByteArray, r.data.toList = emptyF q c ∧ e = .returned (.tuple #[.string r, .int .i64 0])) ∧ Below w.heap.size w w' := by
  have hwq : IntKind.u64.wrap (q : Int) = (q : Int) := by rw [IntKind.wrap_u64]; omega
  unfold stV viewsV
  go_enter Tryz.func32, Tryz.ntmps32
  go_wp2_with fail
  refine (show Calls Tryz.prog 64 #[.agg #[.int .i64 (c : Int), .int .i64 0, .int .i64 1, .int .i64 1, .slice none 0 0, .slice none 0 0, .slice none 0 0, .slice none 0 0, .slice none 0 0], .agg #[.slice none 0 0, .slice none 0 0, .slice none 0 0, .slice none 0 0]] _ _ from body0 c hc _).mono ?_
  rintro e w1 ⟨⟨r, hr, rfl⟩, hb1⟩
  have hrz : r.size = 13 := by rw [size_of_list hr]; rfl
  have HR := Lib.hid hr
  have HB := Lib.hid (((Below.refl w.heap.size w).alloc (Nat.le_refl _) _).alloc (by simp) _ |>.trans (hb1.mono (by simp; omega)))
  clear hr hb1
  go_wp2_with fail
  refine (wr_raw ⟨#[115, 110, 112, 49]⟩ w1.heap.size _ [] _ (IsWr.fresh w1) (by decide)).mono ?_
  rintro e w2 ⟨rfl, v2, h2⟩
  have H2 := Lib.hid h2
  clear h2
  go_wp2_with fail
  try rw [hwq]
  refine (wr_u64 q w1.heap.size v2 _ w2 (by omega) H2.out.is (by simp)).mono ?_
  rintro e w3 ⟨rfl, v3, h3⟩
  have H3 := Lib.hid (H2.out.trans h3)
  clear h3
  go_wp2_with fail
  try rw [hrz]
  refine (wr_u32 13 w1.heap.size v3 _ w3 (by omega) H3.out.is (by simp [be_length])).mono ?_
  rintro e w4 ⟨rfl, v4, h4⟩
  have H4 := Lib.hid (H3.out.trans h4)
  clear h4
  go_wp2_with fail
  refine (wr_raw r w1.heap.size v4 _ w4 H4.out.is (by simp [be_length]; omega)).mono ?_
  rintro e w5 ⟨rfl, v5, h5⟩
  have H5 := Lib.hid (H4.out.trans h5)
  clear h5
  go_wp2_with fail
  refine (wr_bytes w1.heap.size v5 _ w5 H5.out.is).mono ?_
  rintro e w6 ⟨t, ht, rfl, rfl⟩
  have htl : t.data.toList = [115, 110, 112, 49] ++ be 8 q ++ be 4 (emptyB c).length ++ emptyB c := by
    rw [ht, HR.out]; rfl
  have htz : t.size = 29 := by rw [size_of_list htl]; simp [be_length]; rfl
  have HT := Lib.hid htl
  clear ht htl
  go_wp2_with fail
  refine (seal_any t _ (by unfold maxLen; omega)).mono ?_
  rintro e w7 ⟨u, hu, rfl, hb7⟩
  have HU := Lib.hid (show u.data.toList = emptyF q c from by rw [hu, HT.out]; rfl)
  have HB7 := Lib.hid (below_on (HB.out.trans ((wr_below H5.out).mono HB.out.size)) hb7)
  clear hu hb7
  go_wp2
  go_ret2
  exact ⟨⟨u, HU.out, rfl⟩, HB7.out⟩
end Go.Proofs.YteikdcobpfohcaaGreatDoor

/- Stores of structs of nine, and of four, cells. -/
namespace Go.Proofs.YteikdcobpfohcaaGreatDoor
open Go.RowKit

def set9 (W : World) (b : Nat) (v0 v1 v2 v3 v4 v5 v6 v7 v8 : Value) : World := (((((((((W.setCell ⟨b, 0, none⟩ v0).setCell ⟨b, 1, none⟩ v1).setCell ⟨b, 2, none⟩ v2).setCell ⟨b, 3, none⟩ v3).setCell ⟨b, 4, none⟩ v4).setCell ⟨b, 5, none⟩ v5).setCell ⟨b, 6, none⟩ v6).setCell ⟨b, 7, none⟩ v7).setCell ⟨b, 8, none⟩ v8)
theorem set9_fr (W : World) (b : Nat) (v0 v1 v2 v3 v4 v5 v6 v7 v8 : Value) : Fr (fun k => k = b) W (set9 W b v0 v1 v2 v3 v4 v5 v6 v7 v8) := by
  have h := Fr.refl (fun k => k = b) W
  have h := h.setCell ⟨b, 0, none⟩ (fun _ => rfl) v0
  have h := h.setCell ⟨b, 1, none⟩ (fun _ => rfl) v1
  have h := h.setCell ⟨b, 2, none⟩ (fun _ => rfl) v2
  have h := h.setCell ⟨b, 3, none⟩ (fun _ => rfl) v3
  have h := h.setCell ⟨b, 4, none⟩ (fun _ => rfl) v4
  have h := h.setCell ⟨b, 5, none⟩ (fun _ => rfl) v5
  have h := h.setCell ⟨b, 6, none⟩ (fun _ => rfl) v6
  have h := h.setCell ⟨b, 7, none⟩ (fun _ => rfl) v7
  have h := h.setCell ⟨b, 8, none⟩ (fun _ => rfl) v8
  exact h
theorem set9_row {W : World} {b : Nat} {T : TypeId} {z0 z1 z2 z3 z4 z5 z6 z7 z8 : Value} (v0 v1 v2 v3 v4 v5 v6 v7 v8 : Value) (h : W.heap[b]? = some (.cells #[z0, z1, z2, z3, z4, z5, z6, z7, z8] T (0, 0))) : (set9 W b v0 v1 v2 v3 v4 v5 v6 v7 v8).heap[b]? = some (.cells #[v0, v1, v2, v3, v4, v5, v6, v7, v8] T (0, 0)) := by
  have h : (W.setCell ⟨b, 0, none⟩ v0).heap[b]? = some (.cells #[v0, z1, z2, z3, z4, z5, z6, z7, z8] T (0, 0)) := heap_setCell_same _ _ _ _ _ _ h
  have h : ((W.setCell ⟨b, 0, none⟩ v0).setCell ⟨b, 1, none⟩ v1).heap[b]? = some (.cells #[v0, v1, z2, z3, z4, z5, z6, z7, z8] T (0, 0)) := heap_setCell_same _ _ _ _ _ _ h
  have h : (((W.setCell ⟨b, 0, none⟩ v0).setCell ⟨b, 1, none⟩ v1).setCell ⟨b, 2, none⟩ v2).heap[b]? = some (.cells #[v0, v1, v2, z3, z4, z5, z6, z7, z8] T (0, 0)) := heap_setCell_same _ _ _ _ _ _ h
  have h : ((((W.setCell ⟨b, 0, none⟩ v0).setCell ⟨b, 1, none⟩ v1).setCell ⟨b, 2, none⟩ v2).setCell ⟨b, 3, none⟩ v3).heap[b]? = some (.cells #[v0, v1, v2, v3, z4, z5, z6, z7, z8] T (0, 0)) := heap_setCell_same _ _ _ _ _ _ h
  have h : (((((W.setCell ⟨b, 0, none⟩ v0).setCell ⟨b, 1, none⟩ v1).setCell ⟨b, 2, none⟩ v2).setCell ⟨b, 3, none⟩ v3).setCell ⟨b, 4, none⟩ v4).heap[b]? = some (.cells #[v0, v1, v2, v3, v4, z5, z6, z7, z8] T (0, 0)) := heap_setCell_same _ _ _ _ _ _ h
  have h : ((((((W.setCell ⟨b, 0, none⟩ v0).setCell ⟨b, 1, none⟩ v1).setCell ⟨b, 2, none⟩ v2).setCell ⟨b, 3, none⟩ v3).setCell ⟨b, 4, none⟩ v4).setCell ⟨b, 5, none⟩ v5).heap[b]? = some (.cells #[v0, v1, v2, v3, v4, v5, z6, z7, z8] T (0, 0)) := heap_setCell_same _ _ _ _ _ _ h
  have h : (((((((W.setCell ⟨b, 0, none⟩ v0).setCell ⟨b, 1, none⟩ v1).setCell ⟨b, 2, none⟩ v2).setCell ⟨b, 3, none⟩ v3).setCell ⟨b, 4, none⟩ v4).setCell ⟨b, 5, none⟩ v5).setCell ⟨b, 6, none⟩ v6).heap[b]? = some (.cells #[v0, v1, v2, v3, v4, v5, v6, z7, z8] T (0, 0)) := heap_setCell_same _ _ _ _ _ _ h
  have h : ((((((((W.setCell ⟨b, 0, none⟩ v0).setCell ⟨b, 1, none⟩ v1).setCell ⟨b, 2, none⟩ v2).setCell ⟨b, 3, none⟩ v3).setCell ⟨b, 4, none⟩ v4).setCell ⟨b, 5, none⟩ v5).setCell ⟨b, 6, none⟩ v6).setCell ⟨b, 7, none⟩ v7).heap[b]? = some (.cells #[v0, v1, v2, v3, v4, v5, v6, v7, z8] T (0, 0)) := heap_setCell_same _ _ _ _ _ _ h
  have h : (((((((((W.setCell ⟨b, 0, none⟩ v0).setCell ⟨b, 1, none⟩ v1).setCell ⟨b, 2, none⟩ v2).setCell ⟨b, 3, none⟩ v3).setCell ⟨b, 4, none⟩ v4).setCell ⟨b, 5, none⟩ v5).setCell ⟨b, 6, none⟩ v6).setCell ⟨b, 7, none⟩ v7).setCell ⟨b, 8, none⟩ v8).heap[b]? = some (.cells #[v0, v1, v2, v3, v4, v5, v6, v7, v8] T (0, 0)) := heap_setCell_same _ _ _ _ _ _ h
  exact h
def set4 (W : World) (b : Nat) (v0 v1 v2 v3 : Value) : World := ((((W.setCell ⟨b, 0, none⟩ v0).setCell ⟨b, 1, none⟩ v1).setCell ⟨b, 2, none⟩ v2).setCell ⟨b, 3, none⟩ v3)
theorem set4_fr (W : World) (b : Nat) (v0 v1 v2 v3 : Value) : Fr (fun k => k = b) W (set4 W b v0 v1 v2 v3) := by
  have h := Fr.refl (fun k => k = b) W
  have h := h.setCell ⟨b, 0, none⟩ (fun _ => rfl) v0
  have h := h.setCell ⟨b, 1, none⟩ (fun _ => rfl) v1
  have h := h.setCell ⟨b, 2, none⟩ (fun _ => rfl) v2
  have h := h.setCell ⟨b, 3, none⟩ (fun _ => rfl) v3
  exact h
theorem set4_row {W : World} {b : Nat} {T : TypeId} {z0 z1 z2 z3 : Value} (v0 v1 v2 v3 : Value) (h : W.heap[b]? = some (.cells #[z0, z1, z2, z3] T (0, 0))) : (set4 W b v0 v1 v2 v3).heap[b]? = some (.cells #[v0, v1, v2, v3] T (0, 0)) := by
  have h : (W.setCell ⟨b, 0, none⟩ v0).heap[b]? = some (.cells #[v0, z1, z2, z3] T (0, 0)) := heap_setCell_same _ _ _ _ _ _ h
  have h : ((W.setCell ⟨b, 0, none⟩ v0).setCell ⟨b, 1, none⟩ v1).heap[b]? = some (.cells #[v0, v1, z2, z3] T (0, 0)) := heap_setCell_same _ _ _ _ _ _ h
  have h : (((W.setCell ⟨b, 0, none⟩ v0).setCell ⟨b, 1, none⟩ v1).setCell ⟨b, 2, none⟩ v2).heap[b]? = some (.cells #[v0, v1, v2, z3] T (0, 0)) := heap_setCell_same _ _ _ _ _ _ h
  have h : ((((W.setCell ⟨b, 0, none⟩ v0).setCell ⟨b, 1, none⟩ v1).setCell ⟨b, 2, none⟩ v2).setCell ⟨b, 3, none⟩ v3).heap[b]? = some (.cells #[v0, v1, v2, v3] T (0, 0)) := heap_setCell_same _ _ _ _ _ _ h
  exact h
end Go.Proofs.YteikdcobpfohcaaGreatDoor
