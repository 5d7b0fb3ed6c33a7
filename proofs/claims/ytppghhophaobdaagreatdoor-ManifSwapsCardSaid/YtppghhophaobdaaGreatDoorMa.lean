/- What a disk that is nobody's tells: find, Read, Delete, manif.Load; and New. -/
import Derived.Test.YtppghhophaobdaaGreatDoorMx
import Derived.Test.YtppghhophaobdaaGreatDoorDk
namespace Go.Proofs.YtppghhophaobdaaGreatDoor
open Go.RowKit Go.Maps Go.Sort

set_option maxRecDepth 100000 in
set_option maxHeartbeats 1000000 in
theorem find_nil (w : World) (n : ByteArray) :
    Calls Tryz.prog 106 #[.pointer none, .string n] w fun e w' => e = .returned (.tuple #[.agg #[.string ⟨#[]⟩, .string ⟨#[]⟩], .int .i64 2]) ∧ Below w.heap.size w w' := by
  go_enter Tryz.func106, Tryz.ntmps106
  go_wp2_with fail
  refine (dk_down_nil _).mono ?_
  rintro e w1 ⟨rfl, rfl⟩
  go_wp2
  exact bodyPost_ret (v := .tuple #[.agg #[.string ⟨#[]⟩, .string ⟨#[]⟩], .int .i64 2]) (by simp [results, Tryz.results106, go_sem]) rfl ⟨rfl, (Below.refl _ _).alloc (Nat.le_refl _) _⟩

set_option maxRecDepth 100000 in
set_option maxHeartbeats 1000000 in
theorem delete_nil (w : World) (n : ByteArray) :
    Calls Tryz.prog 46 #[.pointer none, .string n] w fun e w' => e = .returned (.int .i64 2) ∧ Below w.heap.size w w' := by
  go_enter Tryz.func46, Tryz.ntmps46
  go_wp2_with fail
  refine (find_nil _ n).mono ?_
  rintro e w1 ⟨rfl, hb1⟩
  have B1 := Lib.hid (box2_fr w _ _ hb1)
  clear hb1
  go_wp2
  go_ret
  exact ⟨rfl, B1.out.alloc B1.out.size _⟩

set_option maxRecDepth 100000 in
set_option maxHeartbeats 1000000 in
theorem read_nil (w : World) (n : ByteArray) :
    Calls Tryz.prog 56 #[.pointer none, .string n] w fun e w' => e = .returned (.tuple #[.string ⟨#[]⟩, .int .i64 2]) ∧ Below w.heap.size w w' := by
  go_enter Tryz.func56, Tryz.ntmps56
  go_wp2_with fail
  refine (find_nil _ n).mono ?_
  rintro e w1 ⟨rfl, hb1⟩
  have B1 := Lib.hid hb1
  clear hb1
  go_wp2
  exact bodyPost_ret (v := .tuple #[.string ⟨#[]⟩, .int .i64 2]) (by simp [results, Tryz.results56, go_sem]; rfl) rfl ⟨rfl, B1.out.alloc B1.out.size _⟩

set_option maxRecDepth 100000 in
set_option maxHeartbeats 1000000 in
theorem load_nil (w : World) :
    Calls Tryz.prog 20 #[.pointer none] w fun e w' => e = .returned (.tuple #[noMan, .int .i64 2]) ∧ Below w.heap.size w w' := by
  go_enter Tryz.func20, Tryz.ntmps20
  go_wp2_with fail
  refine (read_nil _ ⟨#[77, 65, 78, 73, 70, 69, 83, 84]⟩).mono ?_
  rintro e w1 ⟨rfl, hb1⟩
  have B1 := Lib.hid ((((Below.refl w.heap.size w).alloc (Nat.le_refl _) _)).trans (hb1.mono (by simp)))
  have hbox : w1.heap[w.heap.size]? = some (.cells #[.int .i64 0, .slice none 0 0] 40 (0, 0)) := (hb1.block _ (by simp)).trans (alloc_at_top _ _ rfl)
  have c0 : w1.cell? ⟨w.heap.size, 0, none⟩ = some (.int .i64 0) := by rw [cell_of_row _ _ _ _ _ _ hbox]; rfl
  have c1 : w1.cell? ⟨w.heap.size, 1, none⟩ = some (.slice none 0 0) := by rw [cell_of_row _ _ _ _ _ _ hbox]; rfl
  have z : ∀ j : Nat, w1.frozen? ⟨w.heap.size, j, none⟩ = false := fun j => frozen_of_row _ _ _ _ _ hbox
  clear hb1 hbox
  go_wp2
  refine bodyPost_ret (v := .tuple #[noMan, .int .i64 2]) (by simp [results, Tryz.results20, go_sem, c0, c1]; rfl) rfl ⟨rfl, ?_⟩
  exact (B1.out.setCell (p := ⟨w.heap.size, 0, none⟩) (Nat.le_refl _) _).setCell (p := ⟨w.heap.size, 1, none⟩) (Nat.le_refl _) _

set_option maxRecDepth 100000 in
set_option maxHeartbeats 1000000 in
theorem dk_new (w : World) (cap : Int) (hc : cap ≤ 9223372036854775807) :
    Calls Tryz.prog 26 #[.int .i64 cap] w fun e w' => LoadPost cap [] w e w' := by
  go_enter Tryz.func26, Tryz.ntmps26
  go_wp2_with fail
  refine (dk_load w cap (.slice none 0 0) [] ⟨none, 0, rfl, .inl rfl⟩ (by simp) (by simp) hc).mono ?_
  rintro e w1 ⟨hb, h⟩
  have HB := Lib.hid hb
  rcases load_cases cap [] with ⟨c, hcf, hc0, hld⟩ | hld
  · rw [hld] at h
    simp only at h
    subst h
    have HL := Lib.hid hld
    clear hld hb
    go_wp2
    refine bodyPost_ret (v := .tuple #[.pointer none, .int .i64 c]) (by simp [results, Tryz.results26, go_sem]) rfl ⟨HB.out, ?_⟩
    rw [HL.out]
  · rw [hld] at h
    obtain ⟨p, b, hpg, hbg, rfl, hd⟩ := h
    have HL := Lib.hid (And.intro hld (And.intro hpg (And.intro hbg hd)))
    clear hld hb hd hpg hbg
    go_wp2
    refine bodyPost_ret (v := .tuple #[.pointer (some ⟨p, 0, none⟩), .int .i64 0]) (by simp [results, Tryz.results26, go_sem]) rfl ⟨HB.out, ?_⟩
    rw [HL.out.1]
    exact ⟨p, b, HL.out.2.1, HL.out.2.2.1, rfl, HL.out.2.2.2⟩
end Go.Proofs.YtppghhophaobdaaGreatDoor

/- Swap on a disk that is nobody's. -/
namespace Go.Proofs.YtppghhophaobdaaGreatDoor
open Go.RowKit Go.Maps Go.Sort

set_option maxRecDepth 100000 in
set_option maxHeartbeats 2000000 in
theorem swap_nil_bad (w : World) (g : Int) (sv : Value) (l : Segs) (hs : SegsAt w sv l) (hl : l.length ≤ 1099511627776) (hm : mayB g l = false) :
    Calls Tryz.prog 14 #[.pointer none, .agg #[.int .i64 g, sv]] w fun e w' => e = .returned (.int .i64 4) ∧ Below w.heap.size w w' := by
  have hmf : ∀ (fn : Fn) (first cap : Array Value) (w : World), (Instr.makeFunc fn first cap).run Tryz.prog w = .ok (.func fn first cap) w := fun _ _ _ _ => rfl
  have HS := Lib.hid hs
  have HM := Lib.hid hm
  clear hs hm
  go_enter_defers Tryz.func14, Tryz.ntmps14
  go_wp2_with fail
  refine (make_bad _ g sv l (HS.out.pure (((((Below.refl _ _).alloc (Nat.le_refl _) _).alloc (by simp) _).alloc (by simp; omega) _))) hl HM.out).mono ?_
  rintro e w1 ⟨rfl, hb1⟩
  have hs1 := hb1.size
  simp at hs1
  have hs2 : w.heap.size + 1 + 1 < w1.heap.size := by omega
  have c1 : w1.cell? ⟨w.heap.size + 1 + 1, 0, none⟩ = some (.int .i64 0) := by rw [hb1.cell (by simp), World.cell?_alloc_at _ _ _ _ (by simp)]; rfl
  have z1 : w1.frozen? ⟨w.heap.size + 1 + 1, 0, none⟩ = false := (hb1.frozen (by simp)).trans (World.frozen?_alloc_at _ _ _ _ (by simp))
  have HB := Lib.hid ((((((Below.refl w.heap.size w).alloc (Nat.le_refl _) _).alloc (by simp) _).alloc (by simp; omega) _)).trans (hb1.mono (by simp; omega)))
  clear hb1
  go_wp2
  refine ⟨.int .i64 4, ?_, rfl, ?_⟩
  · simp [results, Tryz.results14, go_sem]
    rw [World.cell?_alloc_past _ _ _ (by simpa using hs2), World.cell?_setCell_same' _ _ _ (by rw [World.cell?_setCell_same' _ _ _ (by rw [c1]; rfl)]; rfl)]
  · exact ((HB.out.setCell (by show w.heap.size ≤ w.heap.size + 1 + 1; omega) _).setCell (by show w.heap.size ≤ w.heap.size + 1 + 1; omega) _).alloc (by simp; omega) _

set_option maxRecDepth 100000 in
set_option maxHeartbeats 400000 in
theorem step_nil (w : World) (q : Nat) (hq : w.cell? ⟨q, 0, none⟩ = some (.pointer none)) :
    Calls Tryz.prog 61 #[.pointer (some ⟨q, 0, none⟩)] w fun e w' => e = .returned (.int .i64 2) ∧ Below w.heap.size w w' := by
  go_enter Tryz.func61, Tryz.ntmps61
  go_wp2_with fail
  refine (delete_nil w ⟨#[77, 65, 78, 73, 70, 69, 83, 84, 46, 110, 101, 119]⟩).mono ?_
  rintro e w1 ⟨rfl, hb⟩
  have HB := Lib.hid hb
  clear hb
  go_wp2
  go_ret
  exact ⟨rfl, HB.out⟩

set_option maxRecDepth 100000 in
set_option maxHeartbeats 1000000 in
theorem door_nil (w : World) (c q : Nat) (code : Int) (u : FrameMode) (h44 : (code == 44) = false) (hc : w.cell? ⟨c, 0, none⟩ = some (.int .i64 code)) :
    CallsD Tryz.prog 60 #[.pointer (some ⟨c, 0, none⟩), .pointer (some ⟨q, 0, none⟩)] u w fun e u' w' => u' = u ∧ (e = .returned (.tuple #[]) ∧ w' = w) := by
  go_enter_d Tryz.func60, Tryz.ntmps60
  go_wp2_with fail
  go_end0
  exact ⟨rfl, rfl⟩

theorem nil_end (wd : World) (c q : Nat) (code : Int) (tmps : Array Value) (h44 : (code == 44) = false) (ht : tmps[4]?.getD undef = .pointer (some ⟨c, 0, none⟩)) (hc : wd.cell? ⟨c, 0, none⟩ = some (.int .i64 code)) (R : Ending → World → Prop) (hR : R (.returned (.int .i64 code)) wd) :
    bodyPostD Tryz.prog Tryz.f14 R Exit.ret { tmps := tmps, defers := [{ target := Target.fn (Fn.func 60) #[.pointer (some ⟨c, 0, none⟩), .pointer (some ⟨q, 0, none⟩)], args := #[] }] } wd := by
  refine leaves_cons (f := 60) (args := #[.pointer (some ⟨c, 0, none⟩), .pointer (some ⟨q, 0, none⟩)]) (by simp) (by simp [go_sem]) ?_
  refine (door_nil wd c q code .returning h44 hc).mono ?_
  rintro e u' w'' ⟨rfl, rfl, rfl⟩
  exact ⟨_, res_cell tmps _ c _ _ ht hc rfl, hR⟩

set_option maxRecDepth 100000 in
set_option maxHeartbeats 4000000 in
theorem swap_nil_ok (w : World) (g : Int) (sv : Value) (l : Segs) (hs : SegsAt w sv l) (hm : mayB g l = true) :
    Calls Tryz.prog 14 #[.pointer none, .agg #[.int .i64 g, sv]] w fun e w' => e = .returned (.int .i64 2) ∧ Below w.heap.size w w' := by
  have hmf : ∀ (fn : Fn) (first cap : Array Value) (w : World), (Instr.makeFunc fn first cap).run Tryz.prog w = .ok (.func fn first cap) w := fun _ _ _ _ => rfl
  have HS := Lib.hid hs
  have HM := Lib.hid hm
  clear hs hm
  go_enter_defers Tryz.func14, Tryz.ntmps14
  go_wp2_with fail
  refine (make_ok _ g sv l (HS.out.pure (((((Below.refl _ _).alloc (Nat.le_refl _) _).alloc (by simp) _).alloc (by simp; omega) _))) HM.out).mono ?_
  rintro e w1 ⟨x, hx, rfl, hb1⟩
  have hs1 := hb1.size
  simp at hs1
  have hs2 : w.heap.size + 1 + 1 < w1.heap.size := by omega
  have HB := Lib.hid ((((((Below.refl w.heap.size w).alloc (Nat.le_refl _) _).alloc (by simp) _).alloc (by simp; omega) _)).trans (hb1.mono (by simp; omega)))
  have hq : w1.cell? ⟨w.heap.size, 0, none⟩ = some (.pointer none) := by rw [hb1.cell (by simp; omega), World.cell?_alloc_past _ _ _ (by simp; omega), World.cell?_alloc_past _ _ _ (by simp), World.cell?_alloc_at _ _ _ _ rfl]; rfl
  have hcb : w1.heap[w.heap.size + 1 + 1]? = some (.cells #[.int .i64 0] 30 (0, 0)) := (hb1.block _ (by simp)).trans (alloc_at_top _ _ (by simp))
  have c1 : w1.cell? ⟨w.heap.size + 1 + 1, 0, none⟩ = some (.int .i64 0) := by rw [cell_of_row w1 _ _ _ _ _ hcb]; rfl
  have z1 : w1.frozen? ⟨w.heap.size + 1 + 1, 0, none⟩ = false := frozen_of_row w1 _ 0 _ _ hcb
  clear hb1 hx
  go_wp2
  obtain ⟨w2, hw2⟩ : ∃ w2, w2 = ((w1.setCell ⟨w.heap.size + 1 + 1, 0, none⟩ (.int .i64 0)).alloc (.cells #[.string x] 9)).alloc (.cells (stepCells w.heap.size w1.heap.size) 115) := ⟨_, rfl⟩
  have HW2 := Lib.hid hw2
  have hfr2 : Fr (fun k => k = w.heap.size + 1 + 1) w1 w2 := by rw [hw2]; exact ((setCell_fr (w := w1) ⟨w.heap.size + 1 + 1, 0, none⟩ _).alloc _).alloc _
  have hq2 := hfr2.cellAt hq (by omega)
  have hc2 : w2.heap[w.heap.size + 1 + 1]? = some (.cells #[.int .i64 0] 30 (0, 0)) := by
    rw [hw2, Below.heap_alloc _ _ _ (by simp; omega), Below.heap_alloc _ _ _ (by simp; omega)]
    exact one_setCell hcb
  have hst2 : w2.heap[w1.heap.size + 1]? = some (.cells (stepCells w.heap.size w1.heap.size) 115 (0, 0)) := by rw [hw2]; exact alloc_at_top _ _ (by simp)
  have B2 := Lib.hid (HB.out.trans (hfr2.below (B := w.heap.size) (by omega) (fun k hk => by omega)))
  have HQ2 := Lib.hid (And.intro hq2 (And.intro hc2 hst2))
  have hs22 := hfr2.size
  clear hw2 hq2 hc2 hst2 hfr2 hq hcb c1 z1
  go_loopw [29] (fun i wr => i = .int .i64 0 ∧ w2 = wr) (fun _ _ => 0)
  case atStart =>
    have e := HW2.out
    unfold stepCells at e
    rw [← e]
    exact ⟨rfl, rfl⟩
  case round =>
    obtain ⟨rfl, rfl⟩ := hrel
    have he : ∀ (args : Array Value) (w : World), (callFunc 61 args).run Tryz.prog w = .ok (.enter 61 args) w := enters_of Tryz.func61 (by kernel_rfl) rfl
    have g1 : w2.cell? ⟨w1.heap.size + 1, 0, none⟩ = some (.func (.func 61) #[] #[.pointer (some ⟨w.heap.size, 0, none⟩)]) := by rw [cell_of_row w2 _ _ _ _ _ HQ2.out.2.2]; rfl
    have g2 : w2.cell? ⟨w1.heap.size + 1, 1, none⟩ = some (.bool true) := by rw [cell_of_row w2 _ _ _ _ _ HQ2.out.2.2]; rfl
    have hl2 := lt_of_block HQ2.out.2.2
    have hql := ltOfCell HQ2.out.1
    go_wp2_with fail
    refine (step_nil _ w.heap.size (by rw [World.cell?_alloc_past _ _ _ hql]; exact HQ2.out.1)).mono ?_
    rintro e w4 ⟨rfl, hb4⟩
    have hcl := lt_of_block HQ2.out.2.1
    have hc4 := (hb4.block _ (by simp; omega)).trans ((Below.heap_alloc _ _ _ hcl).trans HQ2.out.2.1)
    have b1 : w4.cell? ⟨w2.heap.size, 0, none⟩ = some (.func (.func 61) #[] #[.pointer (some ⟨w.heap.size, 0, none⟩)]) := (hb4.cell (p := ⟨w2.heap.size, 0, none⟩) (by simp)).trans (World.cell?_alloc_at _ _ _ _ rfl)
    have b2 : w4.cell? ⟨w2.heap.size, 1, none⟩ = some (.bool true) := (hb4.cell (p := ⟨w2.heap.size, 1, none⟩) (by simp)).trans (World.cell?_alloc_at _ _ _ _ rfl)
    have b3 : w4.cell? ⟨w.heap.size + 1 + 1, 0, none⟩ = some (.int .i64 0) := by rw [cell_of_row w4 _ _ _ _ _ hc4]; rfl
    have b4 : w4.frozen? ⟨w.heap.size + 1 + 1, 0, none⟩ = false := frozen_of_row w4 _ 0 _ _ hc4
    have B4 := Lib.hid (B2.out.trans (((Below.refl w2.heap.size w2).alloc (Nat.le_refl _) (.cells #[.func (.func 61) #[] #[.pointer (some ⟨w.heap.size, 0, none⟩)], .bool true] 115)).trans (hb4.mono (by simp)) |>.mono B2.out.size))
    clear hb4 g1 g2
    go_wp2
    have hcN := one_setCell (u := Value.int .i64 2) (one_setCell (u := Value.int .i64 2) hc4)
    refine nil_end _ (w.heap.size + 1 + 1) w.heap.size 2 _ (by rfl) (by rfl) (by rw [cell_of_row _ _ _ _ _ _ hcN]; rfl) _ ⟨rfl, (B4.out.setCell (by show w.heap.size ≤ w.heap.size + 1 + 1; omega) _).setCell (by show w.heap.size ≤ w.heap.size + 1 + 1; omega) _⟩
end Go.Proofs.YtppghhophaobdaaGreatDoor

/- A body behind its first statements. -/
namespace Go.Proofs.YtppghhophaobdaaGreatDoor

/-- What is left of a body behind its first statements. -/
def dropS : Nat → Code → Code
  | n + 1, .seq _ b => dropS n b
  | _, c => c
end Go.Proofs.YtppghhophaobdaaGreatDoor

/- Small boxes. -/
namespace Go.Proofs.YtppghhophaobdaaGreatDoor
open Go.RowKit Go.Sort

theorem one_may : mayB 99999999 [(99999999, 1048576)] = true := by decide
theorem segs_one (w : World) (x y : Int) : SegsAt (w.alloc (.cells #[.int .i64 x, .int .i64 y] 98)) (.slice (some ⟨w.heap.size, 0, none⟩) 1 1) [(x, y)] :=
  ⟨_, 1, rfl, .inr ⟨w.heap.size, 0, rfl, fun i hi => by
    obtain rfl : i = 0 := by simp at hi; omega
    rw [World.cell?_alloc_at _ _ _ _ rfl, World.cell?_alloc_at _ _ _ _ rfl]
    exact ⟨rfl, rfl⟩⟩⟩

/-- The box of the name at the bounds. -/
def OneAt (w : World) (ob sb : Nat) : Prop := w.cell? ⟨ob, 0, none⟩ = some (.int .i64 99999999) ∧ w.cell? ⟨ob, 1, none⟩ = some (.slice (some ⟨sb, 0, none⟩) 1 1) ∧ SegsAt w (.slice (some ⟨sb, 0, none⟩) 1 1) [(99999999, 1048576)]
theorem OneAt.pure {w w' : World} {ob sb : Nat} (h : OneAt w ob sb) (hb : Below w.heap.size w w') : OneAt w' ob sb :=
  ⟨(hb.cell (p := ⟨ob, 0, none⟩) (ltOfCell h.1)).trans h.1, (hb.cell (p := ⟨ob, 1, none⟩) (ltOfCell h.2.1)).trans h.2.1, h.2.2.pure hb⟩
theorem one_new (w : World) : OneAt ((w.alloc (.cells #[.int .i64 99999999, .int .i64 1048576] 98)).alloc (.cells #[.int .i64 99999999, .slice (some ⟨w.heap.size, 0, none⟩) 1 1] 40)) (w.heap.size + 1) w.heap.size :=
  ⟨by rw [World.cell?_alloc_at _ _ _ _ (by simp)]; rfl, by rw [World.cell?_alloc_at _ _ _ _ (by simp)]; rfl, (segs_one w _ _).pure ((Below.refl _ _).alloc (Nat.le_refl _) _)⟩
theorem box_bz (w : World) (o : Obj) : Below w.heap.size w (w.alloc o) := (Below.refl _ _).alloc (Nat.le_refl _) _
theorem dk0_load : dkLoad 1000 [] = (some ⟨[], 1000, -1, false⟩, 0) := by kernel_rfl
theorem dk0_read : (dkRead ⟨[], 1000, -1, false⟩ fileN).2 = 5 := by decide +kernel
theorem dk0_swap : (dkSwap ⟨[], 1000, -1, false⟩ 99999999 [(99999999, 1048576)]).2 = 0 := by decide +kernel
theorem not_sealed : ¬ Sealed [97, 98, 99, 100, 101, 102, 103, 104] := by
  intro h
  exact absurd h.2 (by decide +kernel)
end Go.Proofs.YtppghhophaobdaaGreatDoor
