/- Swap on a disk that is nobody's. -/
import Derived.Test.YtcdjckdbcffgdaaGreatDoorMDl
import Derived.Test.YtcdjckdbcffgdaaGreatDoorMCj
import Derived.Test.YtcdjckdbcffgdaaGreatDoorMAl
namespace Go.Proofs.YtcdjckdbcffgdaaGreatDoor
open Go.RowKit Go.Maps Go.Sort

set_option maxRecDepth 100000 in
set_option maxHeartbeats 2000000 in
theorem swap_nil_bad (w : World) (g : Int) (sv : Value) (l : Segs) (hs : SegsAt w sv l) (hl : l.length ≤ 1099511627776) (hm : mayB g l = false) :
    Calls Tryz.prog 46 #[.pointer none, .agg #[.int .i64 g, sv]] w fun e w' => e = .returned (.int .i64 4) ∧ Below w.heap.size w w' := by
  have hmf : ∀ (fn : Fn) (first cap : Array Value) (w : World), (Instr.makeFunc fn first cap).run Tryz.prog w = .ok (.func fn first cap) w := fun _ _ _ _ => rfl
  have HS := Lib.hid hs
  have HM := Lib.hid hm
  clear hs hm
  go_enter_defers Tryz.func46, Tryz.ntmps46
  go_wp2_with fail
  refine (make_bad _ g sv l (HS.out.pure (((((Below.refl _ _).alloc (Nat.le_refl _) _).alloc (by simp) _).alloc (by simp; omega) _))) hl HM.out).mono ?_
  rintro e w1 ⟨rfl, hb1⟩
  have hs1 := hb1.size
  simp at hs1
  have hs2 : w.heap.size + 1 + 1 < w1.heap.size := by omega
  have c1 : w1.cell? ⟨w.heap.size + 1 + 1, 0, none⟩ = some (.int .i64 0) := by rw [hb1.cell (by simp), World.cell?_alloc_at _ _ _ _ (by simp)]; rfl
  have z1 : w1.frozen? ⟨w.heap.size + 1 + 1, 0, none⟩ = false := (hb1.frozen (by simp)).trans (World.frozen?_alloc_at _ _ _ _ (by simp))
  have HB := Lib.hid ((((((Below.refl w.heap.size w).alloc (Nat.le_refl _) _).alloc (by simp) _).alloc (by simp; omega) _)).trans (hb1.mono (by simp; omega)))
  clear hb1
  go_wp2
  refine ⟨.int .i64 4, ?_, rfl, ?_⟩
  · simp [results, Tryz.results46, go_sem]
    rw [World.cell?_alloc_past _ _ _ (by simpa using hs2), World.cell?_setCell_same' _ _ _ (by rw [World.cell?_setCell_same' _ _ _ (by rw [c1]; rfl)]; rfl)]
  · exact ((HB.out.setCell (by show w.heap.size ≤ w.heap.size + 1 + 1; omega) _).setCell (by show w.heap.size ≤ w.heap.size + 1 + 1; omega) _).alloc (by simp; omega) _

set_option maxRecDepth 100000 in
set_option maxHeartbeats 400000 in
theorem step_nil (w : World) (q : Nat) (hq : w.cell? ⟨q, 0, none⟩ = some (.pointer none)) :
    Calls Tryz.prog 94 #[.pointer (some ⟨q, 0, none⟩)] w fun e w' => e = .returned (.int .i64 2) ∧ Below w.heap.size w w' := by
  go_enter Tryz.func94, Tryz.ntmps94
  go_wp2_with fail
  refine (delete_nil w ⟨#[77, 65, 78, 73, 70, 69, 83, 84, 46, 110, 101, 119]⟩).mono ?_
  rintro e w1 ⟨rfl, hb⟩
  have HB := Lib.hid hb
  clear hb
  go_wp2
  go_ret
  exact ⟨rfl, HB.out⟩

set_option maxRecDepth 100000 in
set_option maxHeartbeats 1000000 in
theorem door_nil (w : World) (c q : Nat) (code : Int) (u : FrameMode) (h44 : (code == 44) = false) (hc : w.cell? ⟨c, 0, none⟩ = some (.int .i64 code)) :
    CallsD Tryz.prog 93 #[.pointer (some ⟨c, 0, none⟩), .pointer (some ⟨q, 0, none⟩)] u w fun e u' w' => u' = u ∧ (e = .returned (.tuple #[]) ∧ w' = w) := by
  go_enter_d Tryz.func93, Tryz.ntmps93
  go_wp2_with fail
  go_end0
  exact ⟨rfl, rfl⟩

theorem nil_end (wd : World) (c q : Nat) (code : Int) (tmps : Array Value) (h44 : (code == 44) = false) (ht : tmps[4]?.getD undef = .pointer (some ⟨c, 0, none⟩)) (hc : wd.cell? ⟨c, 0, none⟩ = some (.int .i64 code)) (R : Ending → World → Prop) (hR : R (.returned (.int .i64 code)) wd) :
    bodyPostD Tryz.prog Tryz.f46 R Exit.ret { tmps := tmps, defers := [{ target := Target.fn (Fn.func 93) #[.pointer (some ⟨c, 0, none⟩), .pointer (some ⟨q, 0, none⟩)], args := #[] }] } wd := by
  refine leaves_cons (f := 93) (args := #[.pointer (some ⟨c, 0, none⟩), .pointer (some ⟨q, 0, none⟩)]) (by simp) (by simp [go_sem]) ?_
  refine (door_nil wd c q code .returning h44 hc).mono ?_
  rintro e u' w'' ⟨rfl, rfl, rfl⟩
  exact ⟨_, res_cell tmps _ c _ _ ht hc rfl, hR⟩

set_option maxRecDepth 100000 in
set_option maxHeartbeats 4000000 in
theorem swap_nil_ok (w : World) (g : Int) (sv : Value) (l : Segs) (hs : SegsAt w sv l) (hm : mayB g l = true) :
    Calls Tryz.prog 46 #[.pointer none, .agg #[.int .i64 g, sv]] w fun e w' => e = .returned (.int .i64 2) ∧ Below w.heap.size w w' := by
  have hmf : ∀ (fn : Fn) (first cap : Array Value) (w : World), (Instr.makeFunc fn first cap).run Tryz.prog w = .ok (.func fn first cap) w := fun _ _ _ _ => rfl
  have HS := Lib.hid hs
  have HM := Lib.hid hm
  clear hs hm
  go_enter_defers Tryz.func46, Tryz.ntmps46
  go_wp2_with fail
  refine (make_ok _ g sv l (HS.out.pure (((((Below.refl _ _).alloc (Nat.le_refl _) _).alloc (by simp) _).alloc (by simp; omega) _))) HM.out).mono ?_
  rintro e w1 ⟨x, hx, rfl, hb1⟩
  have hs1 := hb1.size
  simp at hs1
  have hs2 : w.heap.size + 1 + 1 < w1.heap.size := by omega
  have HB := Lib.hid ((((((Below.refl w.heap.size w).alloc (Nat.le_refl _) _).alloc (by simp) _).alloc (by simp; omega) _)).trans (hb1.mono (by simp; omega)))
  have hq : w1.cell? ⟨w.heap.size, 0, none⟩ = some (.pointer none) := by rw [hb1.cell (by simp; omega), World.cell?_alloc_past _ _ _ (by simp; omega), World.cell?_alloc_past _ _ _ (by simp), World.cell?_alloc_at _ _ _ _ rfl]; rfl
  have hcb : w1.heap[w.heap.size + 1 + 1]? = some (.cells #[.int .i64 0] 27 (0, 0)) := (hb1.block _ (by simp)).trans (alloc_at_top _ _ (by simp))
  have c1 : w1.cell? ⟨w.heap.size + 1 + 1, 0, none⟩ = some (.int .i64 0) := by rw [cell_of_row w1 _ _ _ _ _ hcb]; rfl
  have z1 : w1.frozen? ⟨w.heap.size + 1 + 1, 0, none⟩ = false := frozen_of_row w1 _ 0 _ _ hcb
  clear hb1 hx
  go_wp2
  obtain ⟨w2, hw2⟩ : ∃ w2, w2 = ((w1.setCell ⟨w.heap.size + 1 + 1, 0, none⟩ (.int .i64 0)).alloc (.cells #[.string x] 9)).alloc (.cells (stepCells w.heap.size w1.heap.size) 143) := ⟨_, rfl⟩
  have HW2 := Lib.hid hw2
  have hfr2 : Fr (fun k => k = w.heap.size + 1 + 1) w1 w2 := by rw [hw2]; exact ((setCell_fr (w := w1) ⟨w.heap.size + 1 + 1, 0, none⟩ _).alloc _).alloc _
  have hq2 := hfr2.cellAt hq (by omega)
  have hc2 : w2.heap[w.heap.size + 1 + 1]? = some (.cells #[.int .i64 0] 27 (0, 0)) := by
    rw [hw2, Below.heap_alloc _ _ _ (by simp; omega), Below.heap_alloc _ _ _ (by simp; omega)]
    exact one_setCell hcb
  have hst2 : w2.heap[w1.heap.size + 1]? = some (.cells (stepCells w.heap.size w1.heap.size) 143 (0, 0)) := by rw [hw2]; exact alloc_at_top _ _ (by simp)
  have B2 := Lib.hid (HB.out.trans (hfr2.below (B := w.heap.size) (by omega) (fun k hk => by omega)))
  have HQ2 := Lib.hid (And.intro hq2 (And.intro hc2 hst2))
  have hs22 := hfr2.size
  clear hw2 hq2 hc2 hst2 hfr2 hq hcb c1 z1
  go_loopw [29] (fun i wr => i = .int .i64 0 ∧ w2 = wr) (fun _ _ => 0)
  case atStart =>
    have e := HW2.out
    unfold stepCells at e
    rw [← e]
    exact ⟨rfl, rfl⟩
  case round =>
    obtain ⟨rfl, rfl⟩ := hrel
    have he : ∀ (args : Array Value) (w : World), (callFunc 94 args).run Tryz.prog w = .ok (.enter 94 args) w := enters_of Tryz.func94 (by kernel_rfl) rfl
    have g1 : w2.cell? ⟨w1.heap.size + 1, 0, none⟩ = some (.func (.func 94) #[] #[.pointer (some ⟨w.heap.size, 0, none⟩)]) := by rw [cell_of_row w2 _ _ _ _ _ HQ2.out.2.2]; rfl
    have g2 : w2.cell? ⟨w1.heap.size + 1, 1, none⟩ = some (.bool true) := by rw [cell_of_row w2 _ _ _ _ _ HQ2.out.2.2]; rfl
    have hl2 := lt_of_block HQ2.out.2.2
    have hql := ltOfCell HQ2.out.1
    go_wp2_with fail
    refine (step_nil _ w.heap.size (by rw [World.cell?_alloc_past _ _ _ hql]; exact HQ2.out.1)).mono ?_
    rintro e w4 ⟨rfl, hb4⟩
    have hcl := lt_of_block HQ2.out.2.1
    have hc4 := (hb4.block _ (by simp; omega)).trans ((Below.heap_alloc _ _ _ hcl).trans HQ2.out.2.1)
    have b1 : w4.cell? ⟨w2.heap.size, 0, none⟩ = some (.func (.func 94) #[] #[.pointer (some ⟨w.heap.size, 0, none⟩)]) := (hb4.cell (p := ⟨w2.heap.size, 0, none⟩) (by simp)).trans (World.cell?_alloc_at _ _ _ _ rfl)
    have b2 : w4.cell? ⟨w2.heap.size, 1, none⟩ = some (.bool true) := (hb4.cell (p := ⟨w2.heap.size, 1, none⟩) (by simp)).trans (World.cell?_alloc_at _ _ _ _ rfl)
    have b3 : w4.cell? ⟨w.heap.size + 1 + 1, 0, none⟩ = some (.int .i64 0) := by rw [cell_of_row w4 _ _ _ _ _ hc4]; rfl
    have b4 : w4.frozen? ⟨w.heap.size + 1 + 1, 0, none⟩ = false := frozen_of_row w4 _ 0 _ _ hc4
    have B4 := Lib.hid (B2.out.trans (((Below.refl w2.heap.size w2).alloc (Nat.le_refl _) (.cells #[.func (.func 94) #[] #[.pointer (some ⟨w.heap.size, 0, none⟩)], .bool true] 143)).trans (hb4.mono (by simp)) |>.mono B2.out.size))
    clear hb4 g1 g2
    go_wp2
    have hcN := one_setCell (u := Value.int .i64 2) (one_setCell (u := Value.int .i64 2) hc4)
    refine nil_end _ (w.heap.size + 1 + 1) w.heap.size 2 _ (by rfl) (by rfl) (by rw [cell_of_row _ _ _ _ _ _ hcN]; rfl) _ ⟨rfl, (B4.out.setCell (by show w.heap.size ≤ w.heap.size + 1 + 1; omega) _).setCell (by show w.heap.size ≤ w.heap.size + 1 + 1; omega) _⟩
end Go.Proofs.YtcdjckdbcffgdaaGreatDoor

/- Small boxes. -/
namespace Go.Proofs.YtcdjckdbcffgdaaGreatDoor
open Go.RowKit Go.Sort

theorem one_may : mayB 99999999 [(99999999, 1048576)] = true := by decide
theorem segs_one (w : World) (x y : Int) : SegsAt (w.alloc (.cells #[.int .i64 x, .int .i64 y] 76)) (.slice (some ⟨w.heap.size, 0, none⟩) 1 1) [(x, y)] :=
  ⟨_, 1, rfl, .inr ⟨w.heap.size, 0, rfl, fun i hi => by
    obtain rfl : i = 0 := by simp at hi; omega
    rw [World.cell?_alloc_at _ _ _ _ rfl, World.cell?_alloc_at _ _ _ _ rfl]
    exact ⟨rfl, rfl⟩⟩⟩

/-- The box of the name at the bounds. -/
def OneAt (w : World) (ob sb : Nat) : Prop := w.cell? ⟨ob, 0, none⟩ = some (.int .i64 99999999) ∧ w.cell? ⟨ob, 1, none⟩ = some (.slice (some ⟨sb, 0, none⟩) 1 1) ∧ SegsAt w (.slice (some ⟨sb, 0, none⟩) 1 1) [(99999999, 1048576)]
theorem OneAt.pure {w w' : World} {ob sb : Nat} (h : OneAt w ob sb) (hb : Below w.heap.size w w') : OneAt w' ob sb :=
  ⟨(hb.cell (p := ⟨ob, 0, none⟩) (ltOfCell h.1)).trans h.1, (hb.cell (p := ⟨ob, 1, none⟩) (ltOfCell h.2.1)).trans h.2.1, h.2.2.pure hb⟩
theorem one_new (w : World) : OneAt ((w.alloc (.cells #[.int .i64 99999999, .int .i64 1048576] 76)).alloc (.cells #[.int .i64 99999999, .slice (some ⟨w.heap.size, 0, none⟩) 1 1] 38)) (w.heap.size + 1) w.heap.size :=
  ⟨by rw [World.cell?_alloc_at _ _ _ _ (by simp)]; rfl, by rw [World.cell?_alloc_at _ _ _ _ (by simp)]; rfl, (segs_one w _ _).pure ((Below.refl _ _).alloc (Nat.le_refl _) _)⟩
theorem box_bz (w : World) (o : Obj) : Below w.heap.size w (w.alloc o) := (Below.refl _ _).alloc (Nat.le_refl _) _
theorem dk0_load : dkLoad 1000 [] = (some ⟨[], 1000, -1, false⟩, 0) := by kernel_rfl
theorem dk0_read : (dkRead ⟨[], 1000, -1, false⟩ fileN).2 = 5 := by decide +kernel
theorem dk0_swap : (dkSwap ⟨[], 1000, -1, false⟩ 99999999 [(99999999, 1048576)]).2 = 0 := by decide +kernel
theorem not_sealed : ¬ Sealed [97, 98, 99, 100, 101, 102, 103, 104] := by
  intro h
  exact absurd h.2 (by decide +kernel)
end Go.Proofs.YtcdjckdbcffgdaaGreatDoor

/- manif.Read and manif.Load, told as functions of bytes and of the disk. -/
namespace Go.Proofs.YtcdjckdbcffgdaaGreatDoor
open Go.RowKit Go.Maps Go.Sort

/-- What a Read tells: the manifest of bytes. -/
def readF (s : List UInt8) : Int × Segs × Int := if s.length < 4 then (0, [], 8) else if Crc.seal_ (s.take (s.length - 4)) = s then (match parseMan (s.take (s.length - 4)) with | some (g, l) => (g, l, 0) | none => (0, [], 4)) else (0, [], 42)
def RfRead (r : Int × Segs × Int) (w : World) (e : Ending) (w' : World) : Prop := Below w.heap.size w w' ∧ ∃ v, e = .returned (.tuple #[.agg #[.int .i64 r.1, v], .int .i64 r.2.2]) ∧ OwnSegs w' v r.2.1 ∧ ∀ j, v.ownBlock = some j → w.heap.size ≤ j
theorem own_nil (w : World) : OwnSegs w (.slice none 0 0) [] := World.ownsRow_nil _ _ _ _
theorem rfRead_no {w w' : World} {e : Ending} (c : Int) (h : e = .returned (.tuple #[noMan, .int .i64 c])) (hb : Below w.heap.size w w') : RfRead (0, [], c) w e w' := ⟨hb, .slice none 0 0, h, own_nil _, fun j e => by simp [Value.ownBlock] at e⟩

/-- The program's Read, told so. -/
theorem man_read (s : ByteArray) (w : World) (hs : s.size ≤ 1099511627776) : Calls Tryz.prog 119 #[.string s] w fun e w' => RfRead (readF s.data.toList) w e w' := by
  by_cases h4 : s.size < 4
  · have e1 : readF s.data.toList = (0, [], 8) := if_pos (by rw [size_toList]; exact h4)
    rw [e1]
    exact (read_short s w h4).mono fun e w' h => rfRead_no 8 h.1 h.2
  · by_cases hS : Sealed s.data.toList
    · have e1 : readF s.data.toList = (match parseMan (s.data.toList.take (s.data.toList.length - 4)) with | some (g, l) => (g, l, 0) | none => (0, [], 4)) := (if_neg (by rw [size_toList]; exact h4)).trans (if_pos hS.2)
      refine (read_any s w hs hS _ rfl).mono ?_
      intro e w' h
      unfold ReadPost at h
      obtain ⟨hb, h⟩ := h
      rw [e1, size_toList]
      cases hp : parseMan (s.data.toList.take (s.size - 4)) with
      | none => rw [hp] at h; exact rfRead_no 4 h hb
      | some q =>
        obtain ⟨g, l⟩ := q
        rw [hp] at h
        obtain ⟨v, hv, hvb, he⟩ := h
        exact ⟨hb, v, he, hv, hvb⟩
    · have e1 : readF s.data.toList = (0, [], 42) := (if_neg (by rw [size_toList]; exact h4)).trans (if_neg (fun h => hS ⟨by rw [size_toList]; omega, h⟩))
      rw [e1]
      exact (read_sum s w (by omega) (by unfold maxLen; omega) hS).mono fun e w' h => rfRead_no 42 h.1 h.2

/-- What Load tells of a disk. -/
def loadF (st : DkSt) : Int × Segs × Int := if (dkRead st fileN).2 ≠ 0 then (0, [], (dkRead st fileN).2) else readF (dkRead st fileN).1

theorem dkRead_len {st : DkSt} (h : DkOk st) (n : List UInt8) : (dkRead st n).1.length ≤ 1048576 := by
  unfold dkRead
  split
  · simp
  · cases hg : fsGet st.fs n with
    | none => simp
    | some f =>
      show (f.firm ++ f.pend).length ≤ _
      rw [List.length_append]
      exact h.fs.small f (List.mem_of_find?_eq_some hg)

theorem man_load (w : World) (p b : Nat) (st : DkSt) (h : IsDk w p b st) :
    Calls Tryz.prog 63 #[.pointer (some ⟨p, 0, none⟩)] w fun e w' => RfRead (loadF st) w e w' := by
  refine (load_any w p b st h (fun g l c => (g, l, c) = loadF st) (fun h0 s W hs => ?_) (fun h0 => ?_)).mono ?_
  · have e1 : loadF st = readF s.data.toList := by unfold loadF; rw [if_neg (fun h => h h0), hs]
    rw [e1]
    refine (man_read s W (by rw [size_of_list hs]; have := dkRead_len h.ok fileN; omega)).mono ?_
    rintro e w' ⟨hb, v, he, hv, hvb⟩
    exact ⟨hb, _, _, _, v, rfl, hv, hvb, he⟩
  · unfold loadF; rw [if_pos h0]
  · rintro e w' ⟨hb, c, g, l, v, hP, hv, hvb, he⟩
    rw [← hP]
    exact ⟨hb, v, he, hv, hvb⟩

end Go.Proofs.YtcdjckdbcffgdaaGreatDoor
