/- The walk of souklaw14's works. -/
import Derived.Test.YtcdjckdbcffgdaaGreatDoorMCf
import Derived.Test.YtcdjckdbcffgdaaGreatDoorMAn
import Derived.Test.YtcdjckdbcffgdaaGreatDoorMAo
import Derived.Test.YtcdjckdbcffgdaaGreatDoorMEe
import Derived.Test.YtcdjckdbcffgdaaGreatDoorMBc
import Derived.Test.YtcdjckdbcffgdaaGreatDoorMDl
import Derived.Deep.RegionHeld3
namespace Go.Proofs.YtcdjckdbcffgdaaGreatDoor
open Go.RowKit Go.Maps Go.Sort

theorem lg_append (w : World) (F : Nat → Prop) (g p b : Nat) (st : DkSt) (l : LgSt) (h0 : LgEnv w F g p b st l) (x : ByteArray) (hx : x.size ≤ 140737488355328) :
    Calls Tryz.prog 14 #[.pointer (some ⟨g, 0, none⟩), .string x] w fun e w' => AppPost w F g p b l.next (lgAppend st l x.data.toList) e w' := by
  by_cases hbad : x.size = 0 ∨ 4096 < x.size ∨ 1048576 ≤ l.next
  · exact append_bad w F g p b st l h0 x hx hbad
  · exact append_good w F g p b st l h0 x (by omega) (by omega) (by omega)

theorem textsIn_row {w : World} {g : Nat} {t : TypeId} (xs : List ByteArray) (h : w.heap[g]? = some (.cells (xs.map Value.string).toArray t (0, 0))) : TextsIn w g (xs.map (·.data.toList)) := fun i hi => by
  have hi : i < xs.length := by simpa using hi
  refine ⟨xs[i], by simp, ?_⟩
  rw [cell_of_row _ _ _ _ _ _ h]
  simp [hi]
theorem numsIn_row {w : World} {g : Nat} {t : TypeId} (ms : List Nat) (h : w.heap[g]? = some (.cells (ms.map fun (n : Nat) => Value.int .i64 (n : Int)).toArray t (0, 0))) : NumsIn w g ms := fun i hi => by
  rw [cell_of_row _ _ _ _ _ _ h]
  simp [hi]

/-- A log, its disk, and all that they consist of, behind a world's blocks. -/
structure Fresh (w0 w : World) (F : Nat → Prop) (g p b : Nat) (st : DkSt) (l : LgSt) : Prop where
  env : LgEnv w F g p b st l
  far : ∀ k, F k → w0.heap.size ≤ k
  fp : w0.heap.size ≤ p
  fb : w0.heap.size ≤ b
  below : Below w0.heap.size w0 w
theorem Fresh.pure {w0 w w' : World} {F : Nat → Prop} {g p b : Nat} {st : DkSt} {l : LgSt} (h : Fresh w0 w F g p b st l) (hb : Below w.heap.size w w') : Fresh w0 w' F g p b st l :=
  ⟨h.env.pure hb, h.far, h.fp, h.fb, h.below.trans (hb.mono h.below.size)⟩
theorem Fresh.left {w0 w w' : World} {F : Nat → Prop} {g p b : Nat} {st : DkSt} {l : LgSt} (h : Fresh w0 w F g p b st l) {s : DkSt × LgSt} (hl : LgLeft w F g p b s w') : ∃ F', Fresh w0 w' F' g p b s.1 s.2 := by
  obtain ⟨F', h1, h2, h3⟩ := hl
  refine ⟨F', h1, fun k hk => ?_, h.fp, h.fb, h.below.trans (h2.below h.below.size fun k hk e => ?_)⟩
  · rcases h3 k hk with e | e
    · exact h.far k e
    · exact Nat.le_trans h.below.size e
  · rcases e with e | rfl | rfl
    · have := h.far k e; omega
    · have := h.fp; omega
    · have := h.fb; omega
theorem Fresh.init {w0 w w' : World} (hp : Pow w0) {p b : Nat} {st st' : DkSt} {l : LgSt} {e : Ending} {c : Int} (hb : Below w0.heap.size w0 w) (hd : IsDk w p b st) (fp : w0.heap.size ≤ p) (fb : w0.heap.size ≤ b) (hk : LgOk l) (h : InitPost p b (st', c, some l) w e w') :
    ∃ g F, e = .returned (.tuple #[.pointer (some ⟨g, 0, none⟩), .int .i64 c]) ∧ Fresh w0 w' F g p b st' l := by
  obtain ⟨h1, h2, g, F, h3, h4, h5⟩ := h
  have hw : PW < w0.heap.size := pow_lt hp
  have hpl := hd.lt
  have hbl := hd.own.lt
  have hs := hb.size
  have hb2 : Below w0.heap.size w0 w' := hb.trans (h2.below (B := w0.heap.size) hs fun k hk e => by
    rcases e with e | e
    · rw [e] at hk; omega
    · rw [e] at hk; omega)
  refine ⟨g, F, h5, ⟨h3, h1, below_pow hb2 hp, hk, fun k hk => ?_, by omega⟩, fun k hk => Nat.le_trans hs (h4 k hk), fp, fb, hb2⟩
  have := h4 k hk
  omega

theorem ex_load : dkLoad 1000 [] = (some exD0, 0) := by rfl
theorem exD1_eq : exD1 = { exD0 with fs := newFs 0 } := by
  rcases init_on (st := exD0) ⟨rfl, rfl⟩ rfl (c := exCfg) (by decide) (q := 0) (by decide) with e | e
  · exact congrArg Prod.fst e
  · exact absurd ((congrArg (fun r => r.2.1) e).symm.trans ex_init.1) (by decide)
theorem ex_init2 : lgInit exD0 0 exCfg = (exD1, 0, some exL1) := by
  rcases init_on (st := exD0) ⟨rfl, rfl⟩ rfl (c := exCfg) (by decide) (q := 0) (by decide) with e | e
  · rw [exD1_eq]; exact e
  · exact absurd ((congrArg (fun r => r.2.1) e).symm.trans ex_init.1) (by decide)
theorem exL1_ok : LgOk exL1 := newL_ok (c := exCfg) (by decide) (q := 0) (by decide)
theorem ex_on : On exD1 ∧ LgOn exD1 exL1 := by
  rw [exD1_eq]; exact ⟨⟨rfl, rfl⟩, newFs_on (st := exD0) exCfg (by decide)⟩
/-- Behind an append that is OK. -/
theorem app_keep {st : DkSt} {l : LgSt} (p : List UInt8) (hon : On st) (ha : Apart st.fs) (hk : LgOk l) (ho : LgOn st l) (h : (lgAppend st l p).2 = 0) :
    On (lgAppend st l p).1.1 ∧ LgOn (lgAppend st l p).1.1 (lgAppend st l p).1.2 ∧ (lgAppend st l p).1.2.next = l.next + 1 ∧ (lgAppend st l p).1.2.all = l.all ++ [p] ∧ (lgAppend st l p).1.2.first = l.first := by
  rcases app_on p hon ha hk ho with ⟨fs', l', e, h1, h2, h3, h4, h5, _⟩ | ⟨c, h1, e, _⟩
  · rw [e]; exact ⟨⟨hon.lit, hon.free⟩, h2, h3, h4, h5⟩
  · rw [e] at h; exact absurd h h1
end Go.Proofs.YtcdjckdbcffgdaaGreatDoor

/- The walk of souklaw14's works (2). -/
namespace Go.Proofs.YtcdjckdbcffgdaaGreatDoor
open Go.RowKit Go.Maps Go.Sort

abbrev exS0 : ByteArray := ⟨#[77, 65, 78, 73, 70, 69, 83, 84]⟩
abbrev exS1 : ByteArray := ⟨#[115, 48, 48, 48, 48, 48, 48, 48, 48, 45, 48, 48, 48, 48, 48, 48, 48, 48, 48, 48]⟩
abbrev exS2 : ByteArray := ⟨#[115, 48, 48, 48, 48, 48, 48, 48, 48, 45, 48, 48, 48, 48, 48, 48, 48, 48, 48, 49]⟩
theorem rep_x : List.replicate 20 (UInt8.ofNat (120 : Int).toNat) = exPx := rfl
theorem rep_y : List.replicate 20 (UInt8.ofNat (121 : Int).toNat) = exPy := rfl

theorem many_x (W : World) : Calls Tryz.prog 22 #[.int .i64 20, .int .u8 120] W fun e w' => (∃ r : ByteArray, r.data.toList = exPx ∧ e = .returned (.string r)) ∧ Below W.heap.size W w' := manyC_any W 20 (by decide) 120
theorem many_y (W : World) : Calls Tryz.prog 22 #[.int .i64 20, .int .u8 121] W fun e w' => (∃ r : ByteArray, r.data.toList = exPy ∧ e = .returned (.string r)) ∧ Below W.heap.size W w' := manyC_any W 20 (by decide) 121
theorem sizes_three (W : World) (p b : Nat) (st : DkSt) (h : IsDk W p b st) (e1 : st.fs.map (·.name) = [exS0.data.toList, exS1.data.toList, exS2.data.toList]) (e2 : st.fs.map sizeOfF = [50, 52, 52]) (n1 n2 : Nat)
    (h1 : W.heap[n1]? = some (.cells #[.string exS0, .string exS1, .string exS2] 9 (0, 0))) (h2 : W.heap[n2]? = some (.cells #[.int .i64 50, .int .i64 52, .int .i64 52] 3 (0, 0))) :
    Calls Tryz.prog 26 #[.pointer (some ⟨p, 0, none⟩), .slice (some ⟨n1, 0, none⟩) 3 3, .slice (some ⟨n2, 0, none⟩) 3 3] W fun e w' => e = .returned (.bool true) ∧ Below W.heap.size W w' :=
  sizes_any W p b st h n1 n2 3 3 [exS0.data.toList, exS1.data.toList, exS2.data.toList] [50, 52, 52] (textsIn_row (t := 9) [exS0, exS1, exS2] h1) (numsIn_row (t := 3) [50, 52, 52] h2) e1 e2 3 3 rfl rfl
theorem sizes_new (W : World) (p b : Nat) (st : DkSt) (h : IsDk W p b st) (e1 : st.fs.map (·.name) = [exS0.data.toList, exS1.data.toList, exS2.data.toList]) (e2 : st.fs.map sizeOfF = [50, 52, 52]) :
    Calls Tryz.prog 26 #[.pointer (some ⟨p, 0, none⟩), .slice (some ⟨W.heap.size, 0, none⟩) 3 3, .slice (some ⟨W.heap.size + 1, 0, none⟩) 3 3] (((W.alloc (.cells #[.string exS0, .string exS1, .string exS2] 9)).alloc (.cells #[.int .i64 50, .int .i64 52, .int .i64 52] 3)).drew) fun e w' => e = .returned (.bool true) ∧ Below W.heap.size W w' := by
  have hb : Below W.heap.size W (((W.alloc (.cells #[.string exS0, .string exS1, .string exS2] 9)).alloc (.cells #[.int .i64 50, .int .i64 52, .int .i64 52] 3)).drew) := (box2_belowX W _ _).drew
  have h1 : (((W.alloc (.cells #[.string exS0, .string exS1, .string exS2] 9)).alloc (.cells #[.int .i64 50, .int .i64 52, .int .i64 52] 3))).heap[W.heap.size]? = some (.cells #[.string exS0, .string exS1, .string exS2] 9 (0, 0)) := (Below.heap_alloc _ _ _ (by simp)).trans (heap_alloc_new _ _)
  have h2 : (((W.alloc (.cells #[.string exS0, .string exS1, .string exS2] 9)).alloc (.cells #[.int .i64 50, .int .i64 52, .int .i64 52] 3))).heap[W.heap.size + 1]? = some (.cells #[.int .i64 50, .int .i64 52, .int .i64 52] 3 (0, 0)) := alloc_topX _ _ (by simp)
  exact (sizes_three _ p b st (h.pure hb) e1 e2 W.heap.size (W.heap.size + 1) h1 h2).mono fun e w' h => ⟨h.1, hb.trans (h.2.mono hb.size)⟩
theorem heldS_down {W0 W' : World} {g k : Nat} {v : Value} (h : W0.cell? ⟨g, k, none⟩ = some v) (hb : Below W0.heap.size W0 W') : W'.cell? ⟨g, k, none⟩ = some v ∧ Below W0.heap.size W0 W' := ⟨(hb.cell (ltOfCell h)).trans h, hb⟩
theorem ex_names : exR3.1.1.fs.map (·.name) = [exS0.data.toList, exS1.data.toList, exS2.data.toList] := ex_two.2.2.1
theorem ex_sizes : exR3.1.1.fs.map sizeOfF = [50, 52, 52] := ex_two.2.2.2.1
theorem heldS_alloc {W0 W : World} {g k : Nat} {v : Value} (h : W.cell? ⟨g, k, none⟩ = some v ∧ Below W0.heap.size W0 W) (o : Obj) : (W.alloc o).cell? ⟨g, k, none⟩ = some v ∧ Below W0.heap.size W0 (W.alloc o) :=
  ⟨by rw [World.cell?_alloc_past _ _ _ (ltOfCell h.1)]; exact h.1, h.2.alloc h.2.size o⟩
theorem heldS_drew {W0 W : World} {g k : Nat} {v : Value} (h : W.cell? ⟨g, k, none⟩ = some v ∧ Below W0.heap.size W0 W) : W.drew.cell? ⟨g, k, none⟩ = some v ∧ Below W0.heap.size W0 W.drew := ⟨h.1, h.2.drew⟩
theorem heldS_call {W0 W W' : World} {g k : Nat} {v : Value} (h : W.cell? ⟨g, k, none⟩ = some v ∧ Below W0.heap.size W0 W) (hb : Below W.heap.size W W') : W'.cell? ⟨g, k, none⟩ = some v ∧ Below W0.heap.size W0 W' :=
  ⟨(hb.cell (ltOfCell h.1)).trans h.1, h.2.trans (hb.mono h.2.size)⟩

set_option maxRecDepth 100000 in
set_option maxHeartbeats 4000000 in
theorem works_any (w : World) (hp : Pow w) : Calls Tryz.prog 7 #[] w fun e w' => e = .returned (.bool true) ∧ Below w.heap.size w w' := by
  have HP := Lib.hid hp
  clear hp
  go_enter Tryz.func7, Tryz.ntmps7
  go_wp2_with fail
  refine (dk_new w 1000 (by decide)).mono ?_
  rintro e w1 ⟨hb1, h1⟩
  rw [ex_load] at h1
  obtain ⟨p, b, hpg, hbg, rfl, hd⟩ := h1
  have HB1 := Lib.hid hb1
  have HD := Lib.hid hd
  clear hb1 hd
  go_wp2_with fail
  refine (config_any _).mono ?_
  rintro e w2 ⟨rfl, hb2⟩
  have HB2 := Lib.hid (HB1.out.trans (hb2.mono HB1.out.size))
  have HD2 := Lib.hid (HD.out.pure hb2)
  clear hb2
  go_wp2_with fail
  refine (init_go w2 (below_pow HB2.out HP.out) p b exD0 HD2.out 0 (by decide) exCfg (by decide) (by decide) (by decide) rfl rfl).mono ?_
  intro e w3 h3
  rw [show ((0 : Nat) : Int) = 0 from rfl, ex_init2] at h3
  obtain ⟨g, F, rfl, hf3⟩ := Fresh.init HP.out HB2.out HD2.out hpg hbg exL1_ok h3
  have HF3 := Lib.hid hf3
  clear hf3 h3
  go_wp2_with fail
  refine (show Calls Tryz.prog 26 #[.pointer (some ⟨p, 0, none⟩), .slice (some ⟨w3.heap.size, 0, none⟩) 2 2, .slice (some ⟨w3.heap.size + 1, 0, none⟩) 2 2] _ fun e w' => e = .returned (.bool true) ∧ Below _ _ w' from
    sizes_any ((w3.alloc (.cells #[.string exS0, .string exS1] 9)).alloc (.cells #[.int .i64 34, .int .i64 16] 3)) p b exD1 (HF3.out.env.dk.pure (box2_belowX w3 _ _)) w3.heap.size (w3.heap.size + 1) 2 2 [exS0.data.toList, exS1.data.toList] [34, 16]
      (textsIn_row (t := 9) [exS0, exS1] ((Below.heap_alloc _ _ _ (by simp)).trans (heap_alloc_new _ _))) (numsIn_row (t := 3) [34, 16] (alloc_topX _ _ (by simp))) ex_init.2.1 ex_init.2.2 2 2 rfl rfl).mono ?_
  rintro e w4 ⟨rfl, hb4⟩
  have HF4 := Lib.hid (HF3.out.pure ((box2_belowX w3 _ _).trans (hb4.mono (by simp; omega))))
  clear hb4
  go_wp2_with fail
  refine (manyC_any _ 20 (by decide) 120).mono ?_
  rintro e w5 ⟨⟨px, hpx, rfl⟩, hb5⟩
  have HF5 := Lib.hid (HF4.out.pure hb5)
  rw [rep_x] at hpx
  have HPX := Lib.hid hpx
  have hsx := size_of_list hpx
  rw [show exPx.length = 20 from rfl] at hsx
  clear hb5 hpx
  go_wp2_with fail
  refine (lg_append _ F g p b exD1 exL1 HF5.out.env px (by omega)).mono ?_
  rw [HPX.out, show lgAppend exD1 exL1 exPx = exR2 from rfl]
  rintro e w6 ⟨rfl, hl6⟩
  rw [if_pos ex_two.1, ex_two.1, show exL1.next = 0 from rfl]
  obtain ⟨F2, hf6⟩ := HF5.out.left hl6
  have hk2 := app_keep exPx ex_on.1 (fs_apart HF5.out.env.dk.ok.fs) exL1_ok ex_on.2 ex_two.1
  rw [show lgAppend exD1 exL1 exPx = exR2 from rfl] at hk2
  have HF6 := Lib.hid hf6
  have HK2 := Lib.hid hk2
  clear hl6 hf6 hk2
  go_wp2_with fail
  refine (manyC_any _ 20 (by decide) 121).mono ?_
  rintro e w7 ⟨⟨py, hpy, rfl⟩, hb7⟩
  have HF7 := Lib.hid (HF6.out.pure hb7)
  rw [rep_y] at hpy
  have HPY := Lib.hid hpy
  have hsy := size_of_list hpy
  rw [show exPy.length = 20 from rfl] at hsy
  clear hb7 hpy
  go_wp2_with fail
  refine (lg_append _ F2 g p b exR2.1.1 exR2.1.2 HF7.out.env py (by omega)).mono ?_
  rw [HPY.out, show lgAppend exR2.1.1 exR2.1.2 exPy = exR3 from rfl]
  rintro e w8 ⟨rfl, hl8⟩
  rw [if_pos ex_two.2.1, ex_two.2.1, ex_two.2.2.2.2.2]
  obtain ⟨F3, hf8⟩ := HF7.out.left hl8
  have hk3 := app_keep exPy HK2.out.1 (fs_apart HF7.out.env.dk.ok.fs) HF7.out.env.ok HK2.out.2.1 ex_two.2.1
  rw [show lgAppend exR2.1.1 exR2.1.2 exPy = exR3 from rfl] at hk3
  have HF8 := Lib.hid hf8
  have HK3 := Lib.hid hk3
  have hfst : exR3.1.2.first = 0 := by rw [hk3.2.2.2.2, HK2.out.2.2.2.2]; rfl
  clear hl8 hf8 hk3
  have hnx : exR3.1.2.next = 2 := ex_two.2.2.2.2.1
  have HFS := Lib.hid hfst
  have HNX := Lib.hid hnx
  clear hfst hnx
  go_wp2_with fail
  refine (lg_read_ok _ F3 g p b exR3.1.1 exR3.1.2 HF8.out.env HK3.out.2.1 HK3.out.1.lit 0 (by rw [HFS.out]; decide) (by rw [HNX.out]; decide)).mono ?_
  rintro e w9 ⟨⟨rx, hrx, rfl⟩, hb9⟩
  have HF9 := Lib.hid (HF8.out.pure hb9)
  rw [HFS.out] at hrx
  have hrx2 : rx.data.toList = exPx := hrx.trans (by unfold LgSt.at; rw [ex_tell]; rfl)
  obtain rfl : rx = px := str_ext (hrx2.trans HPX.out.symm)
  clear hb9 hrx hrx2
  go_wp2_with fail
  refine (lg_range_ok _ F3 g p b exR3.1.1 exR3.1.2 HF9.out.env HK3.out.2.1 HK3.out.1.lit 0 2 (by rw [HFS.out]; decide) (by decide) (by rw [HNX.out]; decide)).mono ?_
  rintro e w10 ⟨⟨tv, rfl, hown⟩, hb10⟩
  have HF10 := Lib.hid (HF9.out.pure hb10)
  rw [HFS.out, ex_tell, show (List.drop (0 - (0 : Int).toNat) [exPx, exPy]).take (2 - 0) = [exPx, exPy] from rfl] at hown
  obtain ⟨ta, tc, hta, _, hrow⟩ := row_names hown
  have h1 := hrow 1 (by decide)
  obtain ⟨tg, rfl, _, hc1⟩ := h1
  obtain rfl : tv = .slice (some ⟨tg, 0, none⟩) 2 tc := hta
  have hy : (⟨exPy.toArray⟩ : ByteArray) = py := str_ext (by rw [HPY.out])
  have hc1 : w10.cell? ⟨tg, 1, none⟩ = some (.string py) := hc1.trans (by rw [← hy]; rfl)
  clear hb10 hown hrow hy
  go_wp2_with fail
  obtain ⟨st3, hst3⟩ : ∃ s, s = exR3.1.1 := ⟨_, rfl⟩
  obtain ⟨l3, hl3⟩ : ∃ s, s = exR3.1.2 := ⟨_, rfl⟩
  have hE1 := ex_names
  have hE2 := ex_sizes
  have hf10 := HF10.out
  have hfs := HFS.out
  have hnx := HNX.out
  rw [← hst3] at hE1 hE2 hf10
  rw [← hl3] at hf10 hfs hnx
  have HE1 := Lib.hid hE1
  have HE2 := Lib.hid hE2
  have HQ := Lib.hid hf10
  have HS3 := Lib.hid hfs
  have HN3 := Lib.hid hnx
  clear HF3 HF4 HF5 HF6 HF7 HF8 HF9 HF10 HK2 HK3 HFS HNX hst3 hl3 hE1 hE2 hf10 hfs hnx
  have HN4 : 0 < l3.ix.length := by rw [HQ.out.env.ok.len]; exact HQ.out.env.ok.pos
  have HN5 : l3.ix.length ≤ 1000000 := by rw [HQ.out.env.ok.len]; have := HQ.out.env.ok.few; omega
  have HFC := Lib.hid (show ∀ W : World, Below w10.heap.size w10 W → Calls Tryz.prog 11 #[.pointer (some ⟨g, 0, none⟩)] W fun e w' => e = .returned (.int .i64 0) ∧ W = w' from fun W hb => by
    have h := lg_first W F3 g p l3 (HQ.out.env.lg.pure hb) HQ.out.env.ok.pos
    rw [HS3.out] at h
    exact h)
  have HNC := Lib.hid (show ∀ W : World, Below w10.heap.size w10 W → Calls Tryz.prog 12 #[.pointer (some ⟨g, 0, none⟩)] W fun e w' => e = .returned (.int .i64 2) ∧ Below W.heap.size W w' from fun W hb => by
    have h := lg_next W F3 g p l3 (HQ.out.env.lg.pure hb) HN4 HN5
    rw [HN3.out] at h
    exact h)
  go_region_held3 (fun w' => w'.cell? ⟨tg, 1, none⟩ = some (.string py) ∧ Below w10.heap.size w10 w') (first | exact xS | exact ⟨hc1, (Below.refl _ _).drew⟩ | exact heldS_alloc (by assumption) _ | exact heldS_drew (by assumption) | fail) (first
      | (go_at_call 26; have hh := ‹_ ∧ Below w10.heap.size w10 _›; refine (sizes_three _ p b st3 (HQ.out.env.dk.pure hh.2) HE1.out HE2.out _ _ ?_ ?_).mono ?_; (first | exact (Below.heap_alloc _ _ _ (by simp)).trans (heap_alloc_new _ _) | exact alloc_topX _ _ (by simp) | fail); (first | exact (Below.heap_alloc _ _ _ (by simp)).trans (heap_alloc_new _ _) | exact alloc_topX _ _ (by simp) | fail); rintro e w11 ⟨rfl, hb11⟩; have xS := heldS_call hh hb11; clear hb11 hh)
      | (go_at_call 22; have hh := ‹_ ∧ Below w10.heap.size w10 _›; with_reducible refine (many_x _).mono ?_; rintro e w12 ⟨⟨s1, hs1, rfl⟩, hb12⟩; obtain rfl : s1 = rx := str_ext (hs1.trans HPX.out.symm); have xS := heldS_call hh hb12; clear hb12 hs1)
      | (go_at_call 22; have hh := ‹_ ∧ Below w10.heap.size w10 _›; with_reducible refine (many_y _).mono ?_; rintro e w12 ⟨⟨s1, hs1, rfl⟩, hb12⟩; obtain rfl : s1 = py := str_ext (hs1.trans HPY.out.symm); have xS := heldS_call hh hb12; clear hb12 hs1)
      | (go_at_call 11; have hh := ‹_ ∧ Below w10.heap.size w10 _›; have hc := HFC.out _ hh.2; refine hc.mono ?_; rintro e w13 ⟨rfl, rfl⟩; have xS := hh)
      | (go_at_call 12; have hh := ‹_ ∧ Below w10.heap.size w10 _›; have hc := HNC.out _ hh.2; refine hc.mono ?_; rintro e w14 ⟨rfl, hb14⟩; have xS := heldS_call hh hb14; clear hb14 hc))
  all_goals
    have hh := ‹_ ∧ Below w10.heap.size w10 _›
    have HBZ := Lib.hid (HQ.out.below.trans (hh.2.mono HQ.out.below.size))
    clear hh
    go_wp2
    go_ret
    exact ⟨rfl, HBZ.out⟩
end Go.Proofs.YtcdjckdbcffgdaaGreatDoor
