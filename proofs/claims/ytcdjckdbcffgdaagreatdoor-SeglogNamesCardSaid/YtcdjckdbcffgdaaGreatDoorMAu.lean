/- The walks of seg.First, seg.Scan. -/
import Derived.Test.YtcdjckdbcffgdaaGreatDoorMCi
import Derived.Test.YtcdjckdbcffgdaaGreatDoorMAk
import Derived.Deep.RegionHeld3
import Derived.Test.YtcdjckdbcffgdaaGreatDoorMAa
namespace Go.Proofs.YtcdjckdbcffgdaaGreatDoor
open Go.RowKit

def magicS : List UInt8 := [115, 101, 103, 49]
theorem prefix_take (l : List UInt8) : Lib.hasPrefix l magicS = decide (l.take 4 = magicS) := by
  unfold Lib.hasPrefix
  rw [Bool.eq_iff_iff, List.isPrefixOf_iff_prefix, decide_eq_true_iff, List.prefix_iff_eq_take]
  exact ⟨fun h => h.symm, fun h => h.symm⟩

/-- What First tells. -/
def FirstPost (r : Int × Nat) (w : World) (e : Ending) (w' : World) : Prop := e = .returned (.tuple #[.int .i64 (r.2 : Int), .int .i64 r.1]) ∧ Below w.heap.size w w'
theorem first_of {c : Int} {q : Nat} {r : Int × Nat} {w w' : World} (hr : r = (c, q)) (hb : Below w.heap.size w w') : FirstPost r w (.returned (.tuple #[.int .i64 (q : Int), .int .i64 c])) w' := by subst hr; exact ⟨rfl, hb⟩

set_option maxRecDepth 100000 in
set_option maxHeartbeats 2000000 in
theorem first_any (s : ByteArray) (w : World) (hs : s.size ≤ 1099511627776) :
    Calls Tryz.prog 81 #[.string s] w fun e w' => FirstPost (segFirst s.data.toList) w e w' := by
  by_cases h16 : s.size < 16
  · have HR := Lib.hid (show segFirst s.data.toList = (8, 0) from by unfold segFirst; rw [if_pos (by rw [size_toList]; exact h16)])
    go_enter Tryz.func81, Tryz.ntmps81
    go_wp2
    go_ret2
    exact first_of HR.out (Below.refl _ _)
  have hl16 : ¬ s.data.toList.length < 16 := by rw [size_toList]; exact h16
  by_cases hm : s.data.toList.take 4 = magicS
  rotate_left
  · have HR := Lib.hid (show segFirst s.data.toList = (4, 0) from by unfold segFirst; rw [if_neg hl16, if_pos (show s.data.toList.take 4 ≠ [115, 101, 103, 49] from hm)])
    have HP := Lib.hid (show Lib.hasPrefix s.data.toList magicS = false from by rw [prefix_take]; simpa using hm)
    clear hm
    go_enter Tryz.func81, Tryz.ntmps81
    go_wp2_with (go_at_call 131; refine (Tryz.strings_HasPrefix s ⟨#[115, 101, 103, 49]⟩ _).mono ?_; rintro e w' ⟨rfl, rfl⟩; rw [show Lib.hasPrefix s.data.toList (⟨#[115, 101, 103, 49]⟩ : ByteArray).data.toList = false from HP.out])
    go_ret2
    exact first_of HR.out (Below.refl _ _)
  have HP := Lib.hid (show Lib.hasPrefix s.data.toList magicS = true from by rw [prefix_take]; simpa using hm)
  have HM := Lib.hid hm
  obtain ⟨t, ht⟩ : ∃ t : ByteArray, t = s.extract 0 16 := ⟨_, rfl⟩
  have htl : t.data.toList = s.data.toList.take 16 := by rw [ht, cut_list]; rfl
  have hts : t.size = 16 := by rw [size_of_list htl, List.length_take]; omega
  have HT := Lib.hid ht
  have HTL := Lib.hid htl
  clear hm ht
  have h16' : 16 ≤ s.size := by omega
  by_cases hse : Crc.seal_ (s.data.toList.take 12) = s.data.toList.take 16
  rotate_left
  · have HR := Lib.hid (show segFirst s.data.toList = (42, 0) from by unfold segFirst; rw [if_neg hl16, if_neg (by rw [HM.out]; simp [magicS]), if_pos hse])
    have HN := Lib.hid (show ¬ Sealed t.data.toList from fun h => hse (by
      have := h.2
      rw [htl, List.length_take, show min 16 s.data.toList.length - 4 = 12 from by omega, List.take_take] at this
      exact this))
    clear htl hse
    go_enter Tryz.func81, Tryz.ntmps81
    go_wp2_with (first | (go_at_call 131; refine (Tryz.strings_HasPrefix s ⟨#[115, 101, 103, 49]⟩ _).mono ?_; rintro e w' ⟨rfl, rfl⟩; rw [show Lib.hasPrefix s.data.toList (⟨#[115, 101, 103, 49]⟩ : ByteArray).data.toList = true from HP.out]) | fail)
    rw [← HT.out]
    refine (open_wrong t _ (by omega) (by unfold maxLen; omega) HN.out).mono ?_
    rintro e w1 ⟨rfl, hb1⟩
    have HB := Lib.hid hb1
    clear hb1
    go_wp2
    go_ret2
    exact first_of HR.out HB.out
  have HSE := Lib.hid hse
  have HN := Lib.hid (show Sealed t.data.toList from ⟨by rw [size_toList]; omega, by
    rw [htl, List.length_take, show min 16 s.data.toList.length - 4 = 12 from by omega, List.take_take]
    exact hse⟩)
  clear htl hse
  go_enter Tryz.func81, Tryz.ntmps81
  go_wp2_with (first | (go_at_call 131; refine (Tryz.strings_HasPrefix s ⟨#[115, 101, 103, 49]⟩ _).mono ?_; rintro e w' ⟨rfl, rfl⟩; rw [show Lib.hasPrefix s.data.toList (⟨#[115, 101, 103, 49]⟩ : ByteArray).data.toList = true from HP.out]) | fail)
  rw [← HT.out]
  refine (open_sealed t _ (by unfold maxLen; omega) HN.out).mono ?_
  rintro e w1 ⟨u, hu, rfl, hb1⟩
  have hul : u.data.toList = s.data.toList.take 12 := by rw [hu, HTL.out, hts, List.take_take]; rfl
  have hus : u.size = 12 := by rw [size_of_list hul, List.length_take]; omega
  obtain ⟨v, hv⟩ : ∃ v : ByteArray, v = u.extract 4 12 := ⟨_, rfl⟩
  have hvl : v.data.toList = (s.data.toList.drop 4).take 8 := by rw [hv, cut_list, hul, List.drop_take, List.take_take]; rfl
  have hvs : v.size = 8 := by rw [size_of_list hvl, List.length_take, List.length_drop]; omega
  have HV := Lib.hid hv
  have HVL := Lib.hid hvl
  have HB1 := Lib.hid hb1
  clear hu hul hv hvl hb1
  go_wp2_with fail
  rw [← HV.out]
  refine (rd_new v _ (by omega)).mono ?_
  rintro e w2 ⟨rfl, h2, hb2⟩
  have H2 := Lib.hid h2
  have HB2 := Lib.hid (HB1.out.trans (hb2.mono HB1.out.size))
  clear h2 hb2
  go_wp2_with fail
  refine (rd_u64x _ _ v st0 H2.out).mono ?_
  rintro e w3 ⟨n, sb, hn, rfl, h3, hf3⟩
  have hnv : n = val ((s.data.toList.drop 4).take 8) := by
    have e1 : n = val (st0.take v.data.toList 8).1 := by have := congrArg Prod.fst hn; exact this.symm
    rw [e1, HVL.out]
    unfold RdSt.take st0
    simp only [List.drop_zero]
    rw [if_neg (by simp), if_neg (by rw [List.length_take, List.length_drop]; omega), List.take_take]
    rfl
  have HB3 := Lib.hid (HB2.out.trans (hf3.below (B := _) HB2.out.size (fun i hi e => by have := HB1.out.size; omega)))
  have h64 := fixed_lt8 _ _ hn
  have HNV := Lib.hid hnv
  clear hn h3 hf3 hnv
  have hif : ∀ r, (if s.data.toList.length < 16 then (8, 0) else if s.data.toList.take 4 ≠ [115, 101, 103, 49] then (4, 0) else if Crc.seal_ (s.data.toList.take 12) ≠ s.data.toList.take 16 then (42, 0) else r) = (r : Int × Nat) := fun r => by
    rw [if_neg hl16, if_neg (by rw [HM.out]; simp [magicS]), if_neg (by rw [HSE.out]; simp)]
  have HIF := Lib.hid hif
  clear hif
  by_cases hb : 1048576 < n
  · have HR := Lib.hid (show segFirst s.data.toList = (4, 0) from by unfold segFirst; rw [HIF.out, if_pos (by rw [← HNV.out]; exact hb)])
    go_wp2
    go_ret2
    exact first_of HR.out HB3.out
  · have HR := Lib.hid (show segFirst s.data.toList = (0, n) from by unfold segFirst; rw [HIF.out, if_neg (by rw [← HNV.out]; exact hb), ← HNV.out])
    go_wp2
    go_ret2
    exact first_of HR.out HB3.out

/-- What Scan tells of a segment's bytes. -/
def SegPost (s : ByteArray) (w : World) (e : Ending) (w' : World) : Prop :=
  Below w.heap.size w w' ∧
    if (segFirst s.data.toList).1 ≠ 0 then e = .returned (.tuple #[.agg #[.int .i64 0, .slice none 0 0, .int .i64 0, .bool false], .int .i64 (segFirst s.data.toList).1])
    else ∃ xs v, FsDone s.data.toList 16 (segFirst s.data.toList).2 xs ∧ OwnFrames w' v xs ∧ (∀ g, v.ownBlock = some g → w.heap.size ≤ g) ∧
      e = .returned (.tuple #[.agg #[.int .i64 ((segFirst s.data.toList).2 : Int), v, .int .i64 (frEnd 16 xs : Int), .bool (decide (frEnd 16 xs = s.size))], .int .i64 0])
theorem cast_beq (a b : Nat) : ((a : Int) == (b : Int)) = decide (a = b) := by rw [Bool.eq_iff_iff, beq_iff_eq, decide_eq_true_iff]; omega
theorem first_ok {l : List UInt8} (h : (segFirst l).1 = 0) : 16 ≤ l.length ∧ (segFirst l).2 ≤ 1048576 := by
  obtain ⟨h1, h2⟩ := first_back (s := l) (q := (segFirst l).2) (by rw [← h])
  refine ⟨?_, h1⟩
  rw [h2, List.length_append, segHead_length]; omega

set_option maxRecDepth 100000 in
set_option maxHeartbeats 2000000 in
theorem segscan_any (s : ByteArray) (w : World) (hs : s.size ≤ 1048576) :
    Calls Tryz.prog 33 #[.string s] w fun e w' => SegPost s w e w' := by
  obtain ⟨c, hc⟩ : ∃ c, c = (segFirst s.data.toList).1 := ⟨_, rfl⟩
  obtain ⟨q, hq⟩ : ∃ q, q = (segFirst s.data.toList).2 := ⟨_, rfl⟩
  have HC := Lib.hid hc
  have HQ := Lib.hid hq
  clear hc hq
  go_enter Tryz.func33, Tryz.ntmps33
  go_wp2_with fail
  refine (first_any s _ (by omega)).mono ?_
  rintro e w1 ⟨rfl, hb1⟩
  rw [← HC.out, ← HQ.out]
  have hz : w1.heap[w.heap.size]? = some (.cells #[.int .i64 0, .slice none 0 0, .int .i64 0, .bool false] 72 (0, 0)) := by rw [hb1.block _ (by simp)]; exact heap_alloc_new _ _
  have B1 := Lib.hid (below_box (hb1.mono (by simp)))
  have HZ := Lib.hid hz
  clear hb1 hz
  have r0 : w1.cell? ⟨w.heap.size, 0, none⟩ = some (.int .i64 0) := (cell_of_row _ _ _ _ _ _ HZ.out).trans rfl
  have r1 : w1.cell? ⟨w.heap.size, 1, none⟩ = some (.slice none 0 0) := (cell_of_row _ _ _ _ _ _ HZ.out).trans rfl
  have r2 : w1.cell? ⟨w.heap.size, 2, none⟩ = some (.int .i64 0) := (cell_of_row _ _ _ _ _ _ HZ.out).trans rfl
  have r3 : w1.cell? ⟨w.heap.size, 3, none⟩ = some (.bool false) := (cell_of_row _ _ _ _ _ _ HZ.out).trans rfl
  have z0 : ∀ j : Nat, w1.frozen? ⟨w.heap.size, j, none⟩ = false := fun j => frozen_of_row _ _ _ _ _ HZ.out
  by_cases hc0 : c = 0
  · subst hc0
    have ho := first_ok HC.out.symm
    rw [size_toList] at ho
    have ho1 := ho.1
    have ho2 : q ≤ 1048576 := by rw [HQ.out]; exact ho.2
    clear ho
    go_wp2_with fail
    refine (frscan_any s 16 q w1 hs ho1 ho2).mono ?_
    rintro e w2 ⟨hb2, xs, v, hd, hown, hfr, rfl⟩
    obtain ⟨a0, n0, k0, rfl⟩ := own_shape hown
    have B2 := Lib.hid (B1.out.trans (hb2.mono B1.out.size))
    have hlt := lt_of_block HZ.out
    have HZ2 := Lib.hid ((hb2.block _ hlt).trans HZ.out)
    have HD := Lib.hid hd
    have HO := Lib.hid hown
    have HFR := Lib.hid hfr
    have hn0 : ∀ g, (Value.slice a0 n0 k0).ownBlock = some g → g ≠ w.heap.size := fun g e => by have := hfr g e; omega
    have HN0 := Lib.hid hn0
    clear hb2 hd hown hfr hn0 r0 r1 r2 r3 z0
    have r0 : w2.cell? ⟨w.heap.size, 0, none⟩ = some (.int .i64 0) := (cell_of_row _ _ _ _ _ _ HZ2.out).trans rfl
    have r1 : w2.cell? ⟨w.heap.size, 1, none⟩ = some (.slice none 0 0) := (cell_of_row _ _ _ _ _ _ HZ2.out).trans rfl
    have r2 : w2.cell? ⟨w.heap.size, 2, none⟩ = some (.int .i64 0) := (cell_of_row _ _ _ _ _ _ HZ2.out).trans rfl
    have r3 : w2.cell? ⟨w.heap.size, 3, none⟩ = some (.bool false) := (cell_of_row _ _ _ _ _ _ HZ2.out).trans rfl
    have z0 : ∀ j : Nat, w2.frozen? ⟨w.heap.size, j, none⟩ = false := fun j => frozen_of_row _ _ _ _ _ HZ2.out
    go_wp2
    refine bodyPost_ret (v := .tuple #[.agg #[.int .i64 (q : Int), .slice a0 n0 k0, .int .i64 (frEnd 16 xs : Int), .bool (decide (frEnd 16 xs = s.size))], .int .i64 0]) (by simp [results, Tryz.results33, go_sem, r0, r1, r2, r3]; exact cast_beq _ _) rfl ⟨?_, ?_⟩
    · exact ((((B2.out.setCell (p := ⟨w.heap.size, 0, none⟩) (Nat.le_refl _) _).setCell (p := ⟨w.heap.size, 1, none⟩) (Nat.le_refl _) _).setCell (p := ⟨w.heap.size, 2, none⟩) (Nat.le_refl _) _).setCell (p := ⟨w.heap.size, 3, none⟩) (Nat.le_refl _) _)
    · rw [if_neg (by rw [← HC.out]; simp)]
      refine ⟨xs, _, by rw [← HQ.out]; exact HD.out, ?_, fun g e => by have := HFR.out g e; have := B1.out.size; omega, by rw [← HQ.out]⟩
      exact ownsRow_setCell_other (ownsRow_setCell_other (ownsRow_setCell_other (ownsRow_setCell_other HO.out (fun e => HN0.out _ e rfl) _) (fun e => HN0.out _ e rfl) _) (fun e => HN0.out _ e rfl) _) (fun e => HN0.out _ e rfl) _
  · have hcb : (c == 0) = false := by simpa using hc0
    have hcn : (c != 0) = true := by simpa using hc0
    have HNE := Lib.hid hc0
    clear hc0
    go_wp2
    refine bodyPost_ret (v := .tuple #[.agg #[.int .i64 0, .slice none 0 0, .int .i64 0, .bool false], .int .i64 c]) (by simp [results, Tryz.results33, go_sem, r0, r1, r2, r3]) rfl ⟨?_, ?_⟩
    · exact ((((B1.out.setCell (p := ⟨w.heap.size, 0, none⟩) (Nat.le_refl _) _).setCell (p := ⟨w.heap.size, 1, none⟩) (Nat.le_refl _) _).setCell (p := ⟨w.heap.size, 2, none⟩) (Nat.le_refl _) _).setCell (p := ⟨w.heap.size, 3, none⟩) (Nat.le_refl _) _)
    · rw [← HC.out, if_pos HNE.out]
end Go.Proofs.YtcdjckdbcffgdaaGreatDoor

/- An index in memory; the walks of index.Next, First, Good. -/
namespace Go.Proofs.YtcdjckdbcffgdaaGreatDoor
open Go.RowKit

theorem Tryz.infoMark : (Tryz.prog.info? 190).map (fun i => (i.zero, i.size, i.bytes)) = some (some (.agg #[.int .i64 0, .int .i64 0]), 2, 16) := by kernel_rfl
theorem cell_allocX {w : World} {p : Addr} {v : Value} (o : Obj) (h : w.cell? p = some v) : (w.alloc o).cell? p = some v := (((Below.refl w.heap.size w).alloc (Nat.le_refl _) o).cell (block_lt_of_cell h)).trans h
/-- An index lies in block x; its marks are l. -/
structure IsIx (w : World) (x : Nat) (ev q nx g : Nat) (sv : Value) (l : Segs) : Prop where
  cell : w.heap[x]? = some (.cells #[.int .i64 (ev : Int), .int .i64 (q : Int), .int .i64 (nx : Int), .int .i64 (g : Int), sv] 147 (0, 0))
  own : w.ownsRow 0 190 2 sv l.length (segCells l)
theorem IsIx.cs {w : World} {x ev q nx g : Nat} {sv : Value} {l : Segs} (h : IsIx w x ev q nx g sv l) :
    w.cell? ⟨x, 0, none⟩ = some (.int .i64 (ev : Int)) ∧ w.cell? ⟨x, 1, none⟩ = some (.int .i64 (q : Int)) ∧ w.cell? ⟨x, 2, none⟩ = some (.int .i64 (nx : Int)) ∧ w.cell? ⟨x, 3, none⟩ = some (.int .i64 (g : Int)) ∧ w.cell? ⟨x, 4, none⟩ = some sv :=
  ⟨(cell_of_row _ _ _ _ _ _ h.cell).trans rfl, (cell_of_row _ _ _ _ _ _ h.cell).trans rfl, (cell_of_row _ _ _ _ _ _ h.cell).trans rfl, (cell_of_row _ _ _ _ _ _ h.cell).trans rfl, (cell_of_row _ _ _ _ _ _ h.cell).trans rfl⟩
theorem IsIx.fz {w : World} {x ev q nx g : Nat} {sv : Value} {l : Segs} (h : IsIx w x ev q nx g sv l) (j : Nat) : w.frozen? ⟨x, j, none⟩ = false := frozen_of_row w x j _ _ h.cell
theorem IsIx.lt {w : World} {x ev q nx g : Nat} {sv : Value} {l : Segs} (h : IsIx w x ev q nx g sv l) : x < w.heap.size := lt_of_block h.cell

set_option maxHeartbeats 400000 in
theorem ix_next (w : World) (x ev q nx g : Nat) (sv : Value) (l : Segs) (h : IsIx w x ev q nx g sv l) :
    Calls Tryz.prog 51 #[.pointer (some ⟨x, 0, none⟩)] w fun e w' => e = .returned (.int .i64 (nx : Int)) ∧ w = w' := by
  obtain ⟨c0, c1, c2, c3, c4⟩ := h.cs
  clear h
  go_enter Tryz.func51, Tryz.ntmps51
  go_wp2
  go_ret
  exact ⟨rfl, rfl⟩
set_option maxHeartbeats 400000 in
theorem ix_first (w : World) (x ev q nx g : Nat) (sv : Value) (l : Segs) (h : IsIx w x ev q nx g sv l) :
    Calls Tryz.prog 123 #[.pointer (some ⟨x, 0, none⟩)] w fun e w' => e = .returned (.int .i64 (q : Int)) ∧ w = w' := by
  obtain ⟨c0, c1, c2, c3, c4⟩ := h.cs
  clear h
  go_enter Tryz.func123, Tryz.ntmps123
  go_wp2
  go_ret
  exact ⟨rfl, rfl⟩
set_option maxHeartbeats 400000 in
theorem ix_good (w : World) (x ev q nx g : Nat) (sv : Value) (l : Segs) (h : IsIx w x ev q nx g sv l) :
    Calls Tryz.prog 54 #[.pointer (some ⟨x, 0, none⟩)] w fun e w' => e = .returned (.int .i64 (g : Int)) ∧ w = w' := by
  obtain ⟨c0, c1, c2, c3, c4⟩ := h.cs
  clear h
  go_enter Tryz.func54, Tryz.ntmps54
  go_wp2
  go_ret
  exact ⟨rfl, rfl⟩
end Go.Proofs.YtcdjckdbcffgdaaGreatDoor

/- A region that draws its order, whose one store hits a cell that the region loads: the loads are taken first, and behind the store nothing is asked. No program. -/
namespace Go.Proofs.YtcdjckdbcffgdaaGreatDoor

section
variable {P : Program} {ops : Array Oper} {Q : Exit → Act → World → Prop} {md : Region.Mode} {S : World → Prop} {z : Nat}

/-- Whatever order is picked from here on, and S holds behind every operation but number z. -/
def wpAnyZ (P : Program) (md : Region.Mode) (ops : Array Oper) (Q : Exit → Act → World → Prop) (S : World → Prop) (z : Nat) : Nat → Array Bool → Act → World → Prop
  | 0, listed, a, w => Region.ready md ops listed = [] ∧ Q .normal a w
  | fuel + 1, listed, a, w =>
    (Region.ready md ops listed = [] → Q .normal a w) ∧
    ∀ i ∈ Region.ready md ops listed, wpOp P ops Q i (fun a' w' => (i ≠ z → S w') ∧ wpAnyZ P md ops Q S z fuel (listed.setIfInBounds i true) a' w') a w

theorem wpAny_of_z : ∀ (fuel : Nat) (listed : Array Bool) (a : Act) (w : World), wpAnyZ P md ops Q S z fuel listed a w → wpAny P md ops Q fuel listed a w
  | 0, _, _, _, h => h
  | fuel + 1, _, _, _, h => ⟨h.1, fun i hi => wpOp_mono (fun a' w' h' => wpAny_of_z fuel _ a' w' h'.2) (h.2 i hi)⟩

theorem wpAnyZ_first {i : Nat} {oi : Oper} {v : Value} (hi : ops[i]? = some oi) (hsel : ∀ (j : Nat) (o : Oper) cs b, ops[j]? = some o → o.op ≠ .select cs b)
    (hQ : ∀ c a w, Q (.panic c) (a.put oi.dst v) w → Q (.panic c) a w) {oz : Oper} (hz : ops[z]? = some oz) (hzi : ∃ e ∈ oz.after, Region.binds md e = true ∧ e.on = i) :
    ∀ (fuel : Nat) (listed : Array Bool) (a : Act) (w : World),
      (∀ j oj, ops[j]? = some oj → j ≠ i → listed.getD j true = false → (∀ e ∈ oj.after, Region.binds md e = true → e.on ≠ i) → oi.apart ops oj = true) →
      i ∈ Region.ready md ops listed → YieldsIf P ops S oi v a → S w →
      wpAnyZ P md ops Q S z fuel (listed.setIfInBounds i true) (a.put oi.dst v) w → wpAnyZ P md ops Q S z (fuel + 1) listed a w := by
  intro fuel
  induction fuel with
  | zero =>
    intro listed a w _ hr hy hS H
    refine ⟨fun h => (by rw [h] at hr; cases hr), fun j hj => ?_⟩
    by_cases hji : j = i
    · subst hji; exact hy.wpOp hi hS ⟨fun _ => hS, H⟩
    · have := ready_mono hj hji
      rw [H.1] at this
      cases this
  | succ fuel ih =>
    intro listed a w hfree hr hy hS H
    refine ⟨fun h => (by rw [h] at hr; cases hr), fun j hj => ?_⟩
    by_cases hji : j = i
    · subst hji; exact hy.wpOp hi hS ⟨fun _ => hS, H⟩
    · have h1 := H.2 j (ready_mono hj hji)
      obtain ⟨hjun, oj, hoj, hall⟩ := mem_ready.1 hj
      have hnot : ∀ e ∈ oj.after, Region.binds md e = true → e.on ≠ i := fun e he hb heq => by
        have h1 := hall e he hb
        have h0 := (mem_ready.1 hr).1
        rw [heq] at h1
        rcases Nat.lt_or_ge i listed.size with h' | h'
        · simp [h'] at h0 h1; rw [h0] at h1; cases h1
        · simp [Array.getElem?_eq_none h'] at h1
      have hjz : j ≠ z := fun e => by
        subst e
        rw [hz] at hoj
        cases hoj
        obtain ⟨e, he, hb, heq⟩ := hzi
        exact hnot e he hb heq
      have h2 := wpOp_putIf hoj (hfree j oj hoj hji hjun hnot) (fun cs b => hsel i oi cs b hi) (fun cs b => hsel j oj cs b hoj) hQ hy h1
      have hfree' : ∀ k ok, ops[k]? = some ok → k ≠ i → (listed.setIfInBounds j true).getD k true = false →
          (∀ e ∈ ok.after, Region.binds md e = true → e.on ≠ i) → oi.apart ops ok = true := fun k ok hk hki hun hno => by
        refine hfree k ok hk hki ?_ hno
        by_cases hjk : j = k
        · subst hjk; exact hjun
        · rw [getD_set_ne true hjk] at hun; exact hun
      refine wpOp_mono (fun a' w' h3 => ⟨h3.2.1, ih (listed.setIfInBounds j true) a' w' hfree' (ready_mono hr (Ne.symm hji)) h3.1 (h3.2.1 hjz) ?_⟩) h2
      rw [Array.setIfInBounds_comm _ _ hji]
      exact h3.2.2

/-- Does number z wait for number i? -/
def waitsFor (md : Region.Mode) (ops : Array Oper) (z i : Nat) : Bool := ((ops[z]?).map fun o => o.after.any fun e => Region.binds md e && e.on == i).getD false
theorem wpAnyZ_take {i : Nat} {oi : Oper} {v : Value} {fuel : Nat} {listed : Array Bool} {a : Act} {w : World} (hi : ops[i]? = some oi)
    (hs : Region.noSelect ops = true) (hf : Region.free md ops listed i = true) (hr : (Region.ready md ops listed).contains i = true) (hw : waitsFor md ops z i = true)
    (hQ : ∀ c a w, Q (.panic c) (a.put oi.dst v) w → Q (.panic c) a w) (hy : YieldsIf P ops S oi v a) (hS : S w)
    (h : wpAnyZ P md ops Q S z fuel (listed.setIfInBounds i true) (a.put oi.dst v) w) : wpAnyZ P md ops Q S z (fuel + 1) listed a w := by
  unfold waitsFor at hw
  cases hz : ops[z]? with
  | none => rw [hz] at hw; cases hw
  | some oz =>
    rw [hz] at hw
    simp only [Option.map_some, Option.getD_some] at hw
    obtain ⟨e, he, hb⟩ := Array.any_eq_true'.1 hw
    rw [Bool.and_eq_true, beq_iff_eq] at hb
    exact wpAnyZ_first hi (Region.noSelect_spec hs) hQ hz ⟨e, he, hb.1, hb.2⟩ fuel listed a w (Region.free_spec hi hf) (by simpa using hr) hy hS h

/-- One operation alone may come up. -/
theorem wpAnyZ_one {i : Nat} {o : Oper} {fuel : Nat} {listed : Array Bool} {a : Act} {w : World} (ho : ops[i]? = some o) (hr : Region.ready md ops listed = [i])
    (h : ∀ K' : Act → World → Prop, Shut (∀ a w, (i ≠ z → S w) → wpAnyZ P md ops Q S z fuel (listed.setIfInBounds i true) a w → K' a w) → if Region.wanted o (yielded ops a.tmps) = true then Oper.wp P o a w K' Q else K' (a.put o.dst undef) w) :
    wpAnyZ P md ops Q S z (fuel + 1) listed a w :=
  ⟨fun h0 => (by rw [hr] at h0; cases h0), fun j hj => by
    rw [hr, List.mem_singleton] at hj
    subst hj
    exact wpOp_step ho (fun K' hK => h K' (fun a w hS hW => hK a w ⟨hS, hW⟩))⟩
theorem wpAnyZ_done {listed : Array Bool} {a : Act} {w : World} (hr : Region.ready md ops listed = []) (h : Q .normal a w) :
    ∀ fuel, wpAnyZ P md ops Q S z fuel listed a w
  | 0 => ⟨hr, h⟩
  | _ + 1 => ⟨fun _ => h, by rw [hr]; simp⟩
theorem wp_region_z {id : Nat} {a : Act} {w : World} (z : Nat) (hm : P.follows .mixedOrders = true)
    (h : wpAnyZ P .any ops Q S z ops.size (Array.replicate ops.size false) a w.drew) : (Code.region id ops true).wp P Q a w :=
  wp_region_any hm (wpAny_of_z _ _ _ _ h)
end
end Go.Proofs.YtcdjckdbcffgdaaGreatDoor
