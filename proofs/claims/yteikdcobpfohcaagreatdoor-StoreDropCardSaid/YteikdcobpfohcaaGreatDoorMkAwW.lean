/- The walk of the example of the laws of snapshots' files. -/
import Derived.Test.YteikdcobpfohcaaGreatDoorMFl
import Derived.Test.YteikdcobpfohcaaGreatDoorMkStW
import Derived.Test.YteikdcobpfohcaaGreatDoorMkNew
namespace Go.Proofs.YteikdcobpfohcaaGreatDoor
open Go.RowKit Go.Maps Go.Sort

/-- A disk that is newer than a world. -/
structure Own27 (w0 W : World) (p b : Nat) (st : DkSt) : Prop where
  dk : IsDk W p b st
  fp : w0.heap.size ≤ p
  fb : w0.heap.size ≤ b
  below : Below w0.heap.size w0 W
theorem Own27.pure {w0 W W' : World} {p b : Nat} {st : DkSt} (h : Own27 w0 W p b st) (hb : Below W.heap.size W W') : Own27 w0 W' p b st := ⟨h.dk.pure hb, h.fp, h.fb, below_on h.below hb⟩
theorem Own27.op {w0 W W' : World} {p b : Nat} {st st' : DkSt} (h : Own27 w0 W p b st) (hd : IsDk W' p b st') (hf : DFr p b W W') : Own27 w0 W' p b st' :=
  ⟨hd, h.fp, h.fb, h.below.trans (hf.below h.below.size (fun k hk e => by have := h.fp; have := h.fb; rcases e with rfl | rfl <;> omega))⟩
theorem Own27.lz {w0 W : World} {p b : Nat} {st : DkSt} (h : Own27 w0 W p b st) (hl : Libz w0) : Libz W ∧ ¬ LibzB p ∧ ¬ LibzB b :=
  ⟨hl.pure h.below, fun e => by have := hl.lt _ e; have := h.fp; omega, fun e => by have := hl.lt _ e; have := h.fb; omega⟩
theorem files_tell (w : World) (q c : Nat) (hq : q ≤ 1048576) (hc : c < 128) : FileTells w (q : Int) (stV (c : Int) 0 1 1) viewsV (emptyF q c) 0 := fun W _ => file0 q c hq hc W
theorem emptyF_len (q c : Nat) : (emptyF q c).length = 33 := by show (Crc.seal_ (snapX q c)).length = 33; rw [Crc.seal_length, snapX_len]
theorem own_write {w0 W : World} {p b : Nat} {st : DkSt} (h : Own27 w0 W p b st) (hl : Libz w0) (q c : Nat) (hq : q ≤ 1048576) (hc : c < 128) :
    Calls Tryz.prog 13 #[.pointer (some ⟨p, 0, none⟩), .int .i64 (q : Int), stV (c : Int) 0 1 1, viewsV] W fun e w' => e = .returned (.int .i64 (dkWrite st (q : Int) (emptyF q c, 0)).2) ∧ Own27 w0 w' p b (dkWrite st (q : Int) (emptyF q c, 0)).1 := by
  obtain ⟨h1, h2⟩ := h.lz hl
  refine (st_write W h1 p b st h.dk h2 (q : Int) (c : Int) 0 1 1 (emptyF q c) (by rw [emptyF_len]; omega) (files_tell W q c hq hc)).mono ?_
  rintro e w' ⟨h3, h4, h5⟩
  exact ⟨h3, h.op h4 h5⟩
def exT (n : Nat) : Option Nat := if n = 5 then some 50 else if n = 9 then some 90 else none
set_option maxRecDepth 100000 in
theorem se_read9 : dkRead seC.1 (snapName 9) = (emptyF 9 90, 0) := by decide +kernel
set_option maxRecDepth 100000 in
theorem sn17 : snapName 17 = [110, 48, 48, 48, 48, 48, 48, 48, 48, 49, 55] := by decide +kernel
theorem ex_tells : ∀ n ∈ snapNums (seC.1.fs.map (·.name)), TellsOf seC.1 exT n := by
  rw [se_nums]
  intro n hn
  simp at hn
  rcases hn with rfl | rfl | rfl
  · exact se_read.1
  · exact ⟨by decide, se_read.2⟩
  · exact ⟨by decide, se_read9⟩
theorem ex_new8 : newestV exT (backL 0 8 (snapNums (seC.1.fs.map (·.name)))) = .tuple #[.int .i64 5, stV 50 0 1 1, viewsV, .bool true, .int .i64 0] := by
  rw [se_nums, show backL 0 8 [3, 5, 9] = [5, 3] from by decide]; rfl
theorem ex_new4 : newestV exT (backL 0 4 (snapNums (seC.1.fs.map (·.name)))) = .tuple #[.int .i64 0, stZ, viewsV, .bool false, .int .i64 0] := by
  rw [se_nums, show backL 0 4 [3, 5, 9] = [3] from by decide]; rfl
theorem se_load : dkLoad 1000 [] = (some seT, 0) := rfl
theorem new_any (w0 W : World) (hb : Below w0.heap.size w0 W) : Calls Tryz.prog 11 #[.int .i64 1000] W fun e w' => ∃ p b, e = .returned (.tuple #[.pointer (some ⟨p, 0, none⟩), .int .i64 0]) ∧ Own27 w0 w' p b seT := by
  refine (dk_new W 1000 (by omega)).mono ?_
  rintro e w' ⟨h1, h2⟩
  rw [se_load] at h2
  obtain ⟨p, b, h3, h4, h5, h6⟩ := h2
  have := hb.size
  exact ⟨p, b, h5, h6, by omega, by omega, hb.trans (h1.mono hb.size)⟩

set_option maxRecDepth 100000 in
set_option maxHeartbeats 4000000 in
theorem awake_any (w : World) (hl : Libz w) : Calls Tryz.prog 5 #[] w fun e w' => e = .returned (.bool true) ∧ Below w.heap.size w w' := by
  have HL := Lib.hid hl
  clear hl
  go_enter Tryz.func5, Tryz.ntmps5
  go_wp2_with fail
  refine (sname_any w HL.out.pow 17).mono ?_
  rintro e w1 ⟨⟨r, hr, rfl⟩, hb1⟩
  have hcmp : (r.toList == [110, 48, 48, 48, 48, 48, 48, 48, 48, 49, 55]) = true := by rw [ByteArray.toList_eq, hr, sn17]; decide
  have hcne : (r.toList != [110, 48, 48, 48, 48, 48, 48, 48, 48, 49, 55]) = false := by unfold bne; rw [hcmp]; rfl
  have HB1 := Lib.hid hb1
  clear hr hb1
  go_wp2_with fail
  refine (new_any w w1 HB1.out).mono ?_
  rintro e w2 ⟨p, b, rfl, o2⟩
  have O2 := Lib.hid o2
  clear o2 HB1
  go_wp2_with fail
  refine (at_any 50 _).mono ?_
  rintro e w3 ⟨rfl, hb3⟩
  have O3 := Lib.hid (O2.out.pure hb3)
  clear hb3 O2
  unfold stV
  go_wp2_with fail
  refine (show Calls Tryz.prog 13 #[.pointer (some ⟨p, 0, none⟩), .int .i64 5, .agg #[.int .i64 50, .int .i64 0, .int .i64 1, .int .i64 1, .slice none 0 0, .slice none 0 0, .slice none 0 0, .slice none 0 0, .slice none 0 0], .agg #[.slice none 0 0, .slice none 0 0, .slice none 0 0, .slice none 0 0]] w3 _ from own_write O3.out HL.out 5 50 (by omega) (by omega)).mono ?_
  rintro e w4 ⟨rfl, o4⟩
  have O4 := Lib.hid (show Own27 w w4 p b seA.1 from o4)
  rw [show (dkWrite seT ((5 : Nat) : Int) (emptyF 5 50, 0)).2 = seA.2 from rfl]
  clear o4 O3
  rw [se_acts.1]
  go_wp2_with fail
  refine (at_any 90 _).mono ?_
  rintro e w5 ⟨rfl, hb5⟩
  have O5 := Lib.hid (O4.out.pure hb5)
  clear hb5 O4
  unfold stV
  go_wp2_with fail
  refine (show Calls Tryz.prog 13 #[.pointer (some ⟨p, 0, none⟩), .int .i64 9, .agg #[.int .i64 90, .int .i64 0, .int .i64 1, .int .i64 1, .slice none 0 0, .slice none 0 0, .slice none 0 0, .slice none 0 0, .slice none 0 0], .agg #[.slice none 0 0, .slice none 0 0, .slice none 0 0, .slice none 0 0]] w5 _ from own_write O5.out HL.out 9 90 (by omega) (by omega)).mono ?_
  rintro e w6 ⟨rfl, o6⟩
  have O6 := Lib.hid (show Own27 w w6 p b seB.1 from o6)
  rw [show (dkWrite seA.1 ((9 : Nat) : Int) (emptyF 9 90, 0)).2 = seB.2 from rfl]
  clear o6 O5
  rw [se_acts.2.1]
  go_wp2_with fail
  refine (show Calls Tryz.prog 21 #[.pointer (some ⟨p, 0, none⟩), .string ⟨#[110, 48, 48, 48, 48, 48, 48, 48, 48, 48, 51]⟩] w6 fun e w' => OpPost p b seC w6 e w' from dk_create w6 p b seB.1 O6.out.dk ⟨#[110, 48, 48, 48, 48, 48, 48, 48, 48, 48, 51]⟩ (by decide)).mono ?_
  rintro e w7 ⟨rfl, hd7, hf7⟩
  have O7 := Lib.hid (O6.out.op hd7 hf7)
  rw [se_acts.2.2.1]
  clear hd7 hf7 O6
  go_wp2_with fail
  refine (show Calls Tryz.prog 9 #[.pointer (some ⟨p, 0, none⟩), .int .i64 0, .int .i64 8] _ _ from st_newest _ (O7.out.lz HL.out).1 p b seC.1 O7.out.dk se_acts.2.2.2 0 8 exT ex_tells (by rw [se_nums]; decide)).mono ?_
  rw [ex_new8]
  rintro e w8 ⟨rfl, hb8⟩
  have O8 := Lib.hid (O7.out.pure hb8)
  clear hb8 O7
  unfold stV viewsV
  go_wp2_with fail
  obtain ⟨W9, hW9⟩ : ∃ W9, W9 = (w8.alloc (.cells #[.int .i64 50, .int .i64 0, .int .i64 1, .int .i64 1, .slice none 0 0, .slice none 0 0, .slice none 0 0, .slice none 0 0, .slice none 0 0] 36)).alloc (.cells #[.slice none 0 0, .slice none 0 0, .slice none 0 0, .slice none 0 0] 42) := ⟨_, rfl⟩
  have hb9 : Below w8.heap.size w8 W9 := by rw [hW9]; exact ((Below.refl _ _).alloc (Nat.le_refl _) _).alloc (by simp) _
  have O9 := Lib.hid (O8.out.pure hb9)
  have K9 := Lib.hid (show W9.heap[w8.heap.size]? = some (.cells #[.int .i64 50, .int .i64 0, .int .i64 1, .int .i64 1, .slice none 0 0, .slice none 0 0, .slice none 0 0, .slice none 0 0, .slice none 0 0] 36 (0, 0)) from by rw [hW9]; exact (Below.heap_alloc _ _ _ (by simp)).trans (heap_alloc_new _ _))
  rw [← hW9]
  clear hW9 hb9 O8
  refine (show Calls Tryz.prog 9 #[.pointer (some ⟨p, 0, none⟩), .int .i64 0, .int .i64 4] _ _ from st_newest _ (O9.out.lz HL.out).1 p b seC.1 O9.out.dk se_acts.2.2.2 0 4 exT ex_tells (by rw [se_nums]; decide)).mono ?_
  rw [ex_new4]
  rintro e w10 ⟨rfl, hb10⟩
  have O10 := Lib.hid (O9.out.pure hb10)
  have K10 := Lib.hid ((hb10.block _ (lt_of_block K9.out)).trans K9.out)
  clear hb10 O9 K9
  unfold stZ viewsV
  go_wp2_with fail
  obtain ⟨W11, hW11⟩ : ∃ W11, W11 = (w10.alloc (.cells #[.int .i64 0, .int .i64 0, .int .i64 0, .int .i64 0, .slice none 0 0, .slice none 0 0, .slice none 0 0, .slice none 0 0, .slice none 0 0] 36)).alloc (.cells #[.slice none 0 0, .slice none 0 0, .slice none 0 0, .slice none 0 0] 42) := ⟨_, rfl⟩
  have hb11 : Below w10.heap.size w10 W11 := by rw [hW11]; exact ((Below.refl _ _).alloc (Nat.le_refl _) _).alloc (by simp) _
  have O11 := Lib.hid (O10.out.pure hb11)
  have K11 := Lib.hid ((hb11.block _ (lt_of_block K10.out)).trans K10.out)
  rw [← hW11]
  clear hW11 hb11 O10 K10
  refine (st_list W11 (O11.out.lz HL.out).1 p b seC.1 O11.out.dk).mono ?_
  rintro e w12 ⟨hb12, h12⟩
  rw [se_acts.2.2.2, if_neg (by decide), se_nums] at h12
  obtain ⟨v, rfl, hown⟩ := h12
  obtain ⟨ga, gc, rfl, hrow⟩ := nums_at hown
  obtain ⟨gb, hgb, _, hl2⟩ := hrow 2 (by decide)
  subst hgb
  have O12 := Lib.hid (O11.out.pure hb12)
  have k12 := (hb12.block _ (lt_of_block K11.out)).trans K11.out
  have x50 : w12.cell? ⟨w8.heap.size, 0, none⟩ = some (.int .i64 50) := (cell_of_row _ _ _ _ _ _ k12).trans rfl
  have hl2' : w12.cell? ⟨gb, 2, none⟩ = some (.int .i64 9) := hl2
  clear hb12 O11 K11 hown hrow k12 hl2
  go_wp2
  have HB12 := Lib.hid O12.out.below
  clear O12
  go_loopw [15] (fun i wr => ∃ z : Int, i = .int .i64 z ∧ (z = 2 ∨ z = 3 ∨ z = 4 ∨ z = 5) ∧ Hid (Below w.heap.size w wr)) (fun i _ => 5 - (intOf i).toNat)
  case atStart => exact ⟨2, rfl, .inl rfl, HB12⟩
  case round =>
    obtain ⟨z, rfl, hz, HB⟩ := hrel
    rcases hz with rfl | rfl | rfl | rfl
    · go_wp2_with fail
      refine (new_any w wr HB.out).mono ?_
      rintro e w2 ⟨p, b, rfl, o2⟩
      have O2 := Lib.hid o2
      clear o2
      go_wp2_with fail
      refine (dk_cut w2 p b seT O2.out.dk 2 (by omega) (by omega)).mono ?_
      rintro e w3 ⟨rfl, hd3, hf3⟩
      rw [se_cut.1]
      have O3 := Lib.hid (O2.out.op hd3 hf3)
      clear hd3 hf3 O2
      go_wp2_with fail
      refine (at_any 50 _).mono ?_
      rintro e w4 ⟨rfl, hb4⟩
      have O4 := Lib.hid (O3.out.pure hb4)
      clear hb4 O3
      unfold stV
      go_wp2_with fail
      refine (show Calls Tryz.prog 13 #[.pointer (some ⟨p, 0, none⟩), .int .i64 5, .agg #[.int .i64 50, .int .i64 0, .int .i64 1, .int .i64 1, .slice none 0 0, .slice none 0 0, .slice none 0 0, .slice none 0 0, .slice none 0 0], .agg #[.slice none 0 0, .slice none 0 0, .slice none 0 0, .slice none 0 0]] w4 _ from own_write O4.out HL.out 5 50 (by omega) (by omega)).mono ?_
      rintro e w5 ⟨rfl, o5⟩
      have O5 := Lib.hid (show Own27 w w5 p b (seK 2).1 from o5)
      rw [show (dkWrite (dkCut seT 2).1 ((5 : Nat) : Int) (emptyF 5 50, 0)).2 = (seK 2).2 from rfl]
      clear o5 O4
      obtain ⟨cd, hcd⟩ : ∃ cd, cd = (seK 2).2 := ⟨_, rfl⟩
      have hc0 : cd ≠ 0 := by rw [hcd]; exact se_cut.2.2.2.1
      have hcf : (cd == 0) = false := by simpa using hc0
      have hct : (cd != 0) = true := by simpa using hc0
      rw [← hcd]
      clear hcd
      go_wp2_with fail
      have hal : Below w5.heap.size w5 (w5.alloc (.cells #[.int .i64 99] 3)) := (Below.refl _ _).alloc (Nat.le_refl _) _
      have o6 := O5.out.pure hal
      have hpl := O5.out.dk.lt
      have hbl := O5.out.dk.own.lt
      refine (dk_crash _ p b (seK 2).1 o6.dk (.slice (some ⟨w5.heap.size, 0, none⟩) 1 1) [99] ⟨_, 1, rfl, by simp, .inr ⟨w5.heap.size, 0, rfl, fun i hi => by
        obtain rfl : i = 0 := by simpa using hi
        exact (World.cell?_alloc_at _ _ _ _ rfl).trans rfl⟩⟩ (fun g e => by cases e; exact ⟨by show w5.heap.size ≠ p; omega, by show w5.heap.size ≠ b; omega⟩)).mono ?_
      rintro e w7 ⟨rfl, hd7, hf7⟩
      have O7 := Lib.hid (show Own27 w w7 p b (seX 2) from o6.op hd7 hf7)
      clear hal o6 hpl hbl hd7 hf7 O5
      go_wp2_with fail
      refine (sread_no w7 (.pointer (some ⟨p, 0, none⟩)) (O7.out.lz HL.out).1.pow 5 (by decide) [] 5 (by decide) (reads_of O7.out.dk se_cutread.1 (snapName_short _))).mono ?_
      rintro e w8 ⟨rfl, hb8⟩
      have HB8 := Lib.hid (below_on O7.out.below hb8)
      clear hb8 O7
      skip
      go_wp2
      go_roundw
      case rel => exact ⟨3, by go_num, by decide, Lib.hid ((HB8.out.alloc HB8.out.size _).alloc (by have := HB8.out.size; simp; omega) _)⟩
      case measure => simp [intOf]
    · go_wp2_with fail
      refine (new_any w wr HB.out).mono ?_
      rintro e w2 ⟨p, b, rfl, o2⟩
      have O2 := Lib.hid o2
      clear o2
      go_wp2_with fail
      refine (dk_cut w2 p b seT O2.out.dk 3 (by omega) (by omega)).mono ?_
      rintro e w3 ⟨rfl, hd3, hf3⟩
      rw [se_cut.2.1]
      have O3 := Lib.hid (O2.out.op hd3 hf3)
      clear hd3 hf3 O2
      go_wp2_with fail
      refine (at_any 50 _).mono ?_
      rintro e w4 ⟨rfl, hb4⟩
      have O4 := Lib.hid (O3.out.pure hb4)
      clear hb4 O3
      unfold stV
      go_wp2_with fail
      refine (show Calls Tryz.prog 13 #[.pointer (some ⟨p, 0, none⟩), .int .i64 5, .agg #[.int .i64 50, .int .i64 0, .int .i64 1, .int .i64 1, .slice none 0 0, .slice none 0 0, .slice none 0 0, .slice none 0 0, .slice none 0 0], .agg #[.slice none 0 0, .slice none 0 0, .slice none 0 0, .slice none 0 0]] w4 _ from own_write O4.out HL.out 5 50 (by omega) (by omega)).mono ?_
      rintro e w5 ⟨rfl, o5⟩
      have O5 := Lib.hid (show Own27 w w5 p b (seK 3).1 from o5)
      rw [show (dkWrite (dkCut seT 3).1 ((5 : Nat) : Int) (emptyF 5 50, 0)).2 = (seK 3).2 from rfl]
      clear o5 O4
      obtain ⟨cd, hcd⟩ : ∃ cd, cd = (seK 3).2 := ⟨_, rfl⟩
      have hc0 : cd ≠ 0 := by rw [hcd]; exact se_cut.2.2.2.2.1
      have hcf : (cd == 0) = false := by simpa using hc0
      have hct : (cd != 0) = true := by simpa using hc0
      rw [← hcd]
      clear hcd
      go_wp2_with fail
      have hal : Below w5.heap.size w5 (w5.alloc (.cells #[.int .i64 99] 3)) := (Below.refl _ _).alloc (Nat.le_refl _) _
      have o6 := O5.out.pure hal
      have hpl := O5.out.dk.lt
      have hbl := O5.out.dk.own.lt
      refine (dk_crash _ p b (seK 3).1 o6.dk (.slice (some ⟨w5.heap.size, 0, none⟩) 1 1) [99] ⟨_, 1, rfl, by simp, .inr ⟨w5.heap.size, 0, rfl, fun i hi => by
        obtain rfl : i = 0 := by simpa using hi
        exact (World.cell?_alloc_at _ _ _ _ rfl).trans rfl⟩⟩ (fun g e => by cases e; exact ⟨by show w5.heap.size ≠ p; omega, by show w5.heap.size ≠ b; omega⟩)).mono ?_
      rintro e w7 ⟨rfl, hd7, hf7⟩
      have O7 := Lib.hid (show Own27 w w7 p b (seX 3) from o6.op hd7 hf7)
      clear hal o6 hpl hbl hd7 hf7 O5
      go_wp2_with fail
      refine (sread_no w7 (.pointer (some ⟨p, 0, none⟩)) (O7.out.lz HL.out).1.pow 5 (by decide) [] 5 (by decide) (reads_of O7.out.dk se_cutread.2.1 (snapName_short _))).mono ?_
      rintro e w8 ⟨rfl, hb8⟩
      have HB8 := Lib.hid (below_on O7.out.below hb8)
      clear hb8 O7
      skip
      go_wp2
      go_roundw
      case rel => exact ⟨4, by go_num, by decide, Lib.hid ((HB8.out.alloc HB8.out.size _).alloc (by have := HB8.out.size; simp; omega) _)⟩
      case measure => simp [intOf]
    · go_wp2_with fail
      refine (new_any w wr HB.out).mono ?_
      rintro e w2 ⟨p, b, rfl, o2⟩
      have O2 := Lib.hid o2
      clear o2
      go_wp2_with fail
      refine (dk_cut w2 p b seT O2.out.dk 4 (by omega) (by omega)).mono ?_
      rintro e w3 ⟨rfl, hd3, hf3⟩
      rw [se_cut.2.2.1]
      have O3 := Lib.hid (O2.out.op hd3 hf3)
      clear hd3 hf3 O2
      go_wp2_with fail
      refine (at_any 50 _).mono ?_
      rintro e w4 ⟨rfl, hb4⟩
      have O4 := Lib.hid (O3.out.pure hb4)
      clear hb4 O3
      unfold stV
      go_wp2_with fail
      refine (show Calls Tryz.prog 13 #[.pointer (some ⟨p, 0, none⟩), .int .i64 5, .agg #[.int .i64 50, .int .i64 0, .int .i64 1, .int .i64 1, .slice none 0 0, .slice none 0 0, .slice none 0 0, .slice none 0 0, .slice none 0 0], .agg #[.slice none 0 0, .slice none 0 0, .slice none 0 0, .slice none 0 0]] w4 _ from own_write O4.out HL.out 5 50 (by omega) (by omega)).mono ?_
      rintro e w5 ⟨rfl, o5⟩
      have O5 := Lib.hid (show Own27 w w5 p b (seK 4).1 from o5)
      rw [show (dkWrite (dkCut seT 4).1 ((5 : Nat) : Int) (emptyF 5 50, 0)).2 = (seK 4).2 from rfl]
      clear o5 O4
      rw [se_cut.2.2.2.2.2]
      go_wp2_with fail
      have hal : Below w5.heap.size w5 (w5.alloc (.cells #[.int .i64 99] 3)) := (Below.refl _ _).alloc (Nat.le_refl _) _
      have o6 := O5.out.pure hal
      have hpl := O5.out.dk.lt
      have hbl := O5.out.dk.own.lt
      refine (dk_crash _ p b (seK 4).1 o6.dk (.slice (some ⟨w5.heap.size, 0, none⟩) 1 1) [99] ⟨_, 1, rfl, by simp, .inr ⟨w5.heap.size, 0, rfl, fun i hi => by
        obtain rfl : i = 0 := by simpa using hi
        exact (World.cell?_alloc_at _ _ _ _ rfl).trans rfl⟩⟩ (fun g e => by cases e; exact ⟨by show w5.heap.size ≠ p; omega, by show w5.heap.size ≠ b; omega⟩)).mono ?_
      rintro e w7 ⟨rfl, hd7, hf7⟩
      have O7 := Lib.hid (show Own27 w w7 p b (seX 4) from o6.op hd7 hf7)
      clear hal o6 hpl hbl hd7 hf7 O5
      go_wp2_with fail
      refine (show Calls Tryz.prog 8 #[.pointer (some ⟨p, 0, none⟩), .int .i64 5] w7 _ from sread_ok w7 (.pointer (some ⟨p, 0, none⟩)) (O7.out.lz HL.out).1.pow 5 50 (by omega) (by omega) (reads_of O7.out.dk se_cutread.2.2 (snapName_short _))).mono ?_
      rintro e w8 ⟨rfl, hb8⟩
      have HB8 := Lib.hid (below_on O7.out.below hb8)
      clear hb8 O7
      unfold stV viewsV
      go_wp2
      go_roundw
      case rel => exact ⟨5, by go_num, by decide, Lib.hid ((HB8.out.alloc HB8.out.size _).alloc (by have := HB8.out.size; simp; omega) _)⟩
      case measure => simp [intOf]
    · go_wp2
      go_ret
      exact ⟨rfl, HB.out⟩
end Go.Proofs.YteikdcobpfohcaaGreatDoor
