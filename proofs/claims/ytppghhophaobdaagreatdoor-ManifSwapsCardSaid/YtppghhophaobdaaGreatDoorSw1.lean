/- Swap: its steps, each a closure. -/
import Derived.Test.YtppghhophaobdaaGreatDoorDk11
import Derived.Test.YtppghhophaobdaaGreatDoorMake
import Derived.Defers
namespace Go.Proofs.YtppghhophaobdaaGreatDoor
open Go.RowKit Go.Maps Go.Sort

def freshN : List UInt8 := [77, 65, 78, 73, 70, 69, 83, 84, 46, 110, 101, 119]
def fileN : List UInt8 := [77, 65, 78, 73, 70, 69, 83, 84]

/-- What the steps do. -/
def stepF (s : List UInt8) : Nat → DkSt → DkSt × Int
  | 0, st => dkDelete st freshN
  | 1, st => dkCreate st freshN
  | 2, st => dkAppend st freshN s
  | 3, st => dkSync st freshN
  | _, st => dkRename st freshN fileN

set_option maxRecDepth 100000 in
set_option maxHeartbeats 400000 in
theorem step_0 (w : World) (q p b : Nat) (st : DkSt) (h : IsDk w p b st) (hq : w.cell? ⟨q, 0, none⟩ = some (.pointer (some ⟨p, 0, none⟩))) :
    Calls Tryz.prog 61 #[.pointer (some ⟨q, 0, none⟩)] w fun e w' => OpPost p b (stepF [] 0 st) w e w' := by
  have H := Lib.hid h
  clear h
  go_enter Tryz.func61, Tryz.ntmps61
  go_wp2_with fail
  refine (dk_delete w p b st H.out ⟨#[77, 65, 78, 73, 70, 69, 83, 84, 46, 110, 101, 119]⟩ (by decide)).mono ?_
  rintro e w1 ⟨rfl, hd, hf⟩
  have HD := Lib.hid (And.intro hd hf)
  clear hd hf
  go_wp2
  go_ret
  exact ⟨rfl, HD.out.1, HD.out.2⟩

set_option maxRecDepth 100000 in
set_option maxHeartbeats 400000 in
theorem step_1 (w : World) (q p b : Nat) (st : DkSt) (h : IsDk w p b st) (hq : w.cell? ⟨q, 0, none⟩ = some (.pointer (some ⟨p, 0, none⟩))) :
    Calls Tryz.prog 62 #[.pointer (some ⟨q, 0, none⟩)] w fun e w' => OpPost p b (stepF [] 1 st) w e w' := by
  have H := Lib.hid h
  clear h
  go_enter Tryz.func62, Tryz.ntmps62
  go_wp2_with fail
  refine (dk_create w p b st H.out ⟨#[77, 65, 78, 73, 70, 69, 83, 84, 46, 110, 101, 119]⟩ (by decide)).mono ?_
  rintro e w1 ⟨rfl, hd, hf⟩
  have HD := Lib.hid (And.intro hd hf)
  clear hd hf
  go_wp2
  go_ret
  exact ⟨rfl, HD.out.1, HD.out.2⟩

set_option maxRecDepth 100000 in
set_option maxHeartbeats 400000 in
theorem step_2 (w : World) (q u p b : Nat) (st : DkSt) (x : ByteArray) (h : IsDk w p b st) (hq : w.cell? ⟨q, 0, none⟩ = some (.pointer (some ⟨p, 0, none⟩))) (hu : w.cell? ⟨u, 0, none⟩ = some (.string x)) (hx : x.size ≤ 140737488355328) :
    Calls Tryz.prog 63 #[.pointer (some ⟨q, 0, none⟩), .pointer (some ⟨u, 0, none⟩)] w fun e w' => OpPost p b (stepF x.data.toList 2 st) w e w' := by
  have H := Lib.hid h
  clear h
  go_enter Tryz.func63, Tryz.ntmps63
  go_wp2_with fail
  refine (dk_append w p b st H.out ⟨#[77, 65, 78, 73, 70, 69, 83, 84, 46, 110, 101, 119]⟩ x (by decide) hx).mono ?_
  rintro e w1 ⟨rfl, hd, hf⟩
  have HD := Lib.hid (And.intro hd hf)
  clear hd hf
  go_wp2
  go_ret
  exact ⟨rfl, HD.out.1, HD.out.2⟩

set_option maxRecDepth 100000 in
set_option maxHeartbeats 400000 in
theorem step_3 (w : World) (q p b : Nat) (st : DkSt) (h : IsDk w p b st) (hq : w.cell? ⟨q, 0, none⟩ = some (.pointer (some ⟨p, 0, none⟩))) :
    Calls Tryz.prog 64 #[.pointer (some ⟨q, 0, none⟩)] w fun e w' => OpPost p b (stepF [] 3 st) w e w' := by
  have H := Lib.hid h
  clear h
  go_enter Tryz.func64, Tryz.ntmps64
  go_wp2_with fail
  refine (dk_sync w p b st H.out ⟨#[77, 65, 78, 73, 70, 69, 83, 84, 46, 110, 101, 119]⟩ (by decide)).mono ?_
  rintro e w1 ⟨rfl, hd, hf⟩
  have HD := Lib.hid (And.intro hd hf)
  clear hd hf
  go_wp2
  go_ret
  exact ⟨rfl, HD.out.1, HD.out.2⟩

set_option maxRecDepth 100000 in
set_option maxHeartbeats 400000 in
theorem step_4 (w : World) (q p b : Nat) (st : DkSt) (h : IsDk w p b st) (hq : w.cell? ⟨q, 0, none⟩ = some (.pointer (some ⟨p, 0, none⟩))) :
    Calls Tryz.prog 66 #[.pointer (some ⟨q, 0, none⟩)] w fun e w' => OpPost p b (stepF [] 4 st) w e w' := by
  have H := Lib.hid h
  clear h
  go_enter Tryz.func66, Tryz.ntmps66
  go_wp2_with fail
  refine (dk_rename w p b st H.out ⟨#[77, 65, 78, 73, 70, 69, 83, 84, 46, 110, 101, 119]⟩ ⟨#[77, 65, 78, 73, 70, 69, 83, 84]⟩ (by decide) (by decide)).mono ?_
  rintro e w1 ⟨rfl, hd, hf⟩
  have HD := Lib.hid (And.intro hd hf)
  clear hd hf
  go_wp2
  go_ret
  exact ⟨rfl, HD.out.1, HD.out.2⟩


/-- What stands at the end behind a way out. -/
def swapEnd (e : Int) (st : DkSt) : DkSt × Int :=
  if e = 44 then (if (dkDelete st freshN).2 = 0 ∨ (dkDelete st freshN).2 = 5 then ((dkDelete st freshN).1, 44) else dkDelete st freshN) else (st, e)

theorem delete_code (st : DkSt) (n : List UInt8) : (dkDelete st n).2 = 0 ∨ (dkDelete st n).2 = 5 ∨ (dkDelete st n).2 = 45 := by
  unfold dkDelete doing
  split
  · simp
  · split
    · simp
    · split <;> simp

set_option maxRecDepth 100000 in
set_option maxHeartbeats 1000000 in
theorem swap_deferred (w : World) (c q p b : Nat) (st : DkSt) (code : Int) (u : FrameMode) (h : IsDk w p b st) (hc : w.heap[c]? = some (.cells #[.int .i64 code] 30 (0, 0))) (hq : w.cell? ⟨q, 0, none⟩ = some (.pointer (some ⟨p, 0, none⟩))) (hcp : c ≠ p) (hqc : q ≠ c) :
    CallsD Tryz.prog 60 #[.pointer (some ⟨c, 0, none⟩), .pointer (some ⟨q, 0, none⟩)] u w fun e u' w' => u' = u ∧ (e = .returned (.tuple #[]) ∧ w'.cell? ⟨c, 0, none⟩ = some (.int .i64 (swapEnd code st).2) ∧ IsDk w' p b (swapEnd code st).1 ∧ Fr (fun k => k = p ∨ k = b ∨ k = c) w w') := by
  have hc0 : w.cell? ⟨c, 0, none⟩ = some (.int .i64 code) := by rw [cell_of_row w c 0 _ _ _ hc]; rfl
  have hcz : w.frozen? ⟨c, 0, none⟩ = false := frozen_of_row w c 0 _ _ hc
  have H := Lib.hid h
  have HC := Lib.hid hc
  have hcb : c ≠ b := h.off hc0
  clear h hc
  go_enter_d Tryz.func60, Tryz.ntmps60
  by_cases h44 : code = 44
  · go_wp2_with fail
    refine (show Calls Tryz.prog 46 #[.pointer (some ⟨p, 0, none⟩), .string ⟨#[77, 65, 78, 73, 70, 69, 83, 84, 46, 110, 101, 119]⟩] w fun e w' => OpPost p b (dkDelete st freshN) w e w' from dk_delete w p b st H.out ⟨#[77, 65, 78, 73, 70, 69, 83, 84, 46, 110, 101, 119]⟩ (by decide)).mono ?_
    rintro e w1 ⟨rfl, hd, hf⟩
    have hcb2 : ¬ (c = p ∨ c = b) := by omega
    have c1 := hf.cellAt hc0 hcb2
    have z1 : w1.frozen? ⟨c, 0, none⟩ = false := (hf.frozen (ltOfCell hc0) hcb2).trans hcz
    have HD := Lib.hid (And.intro hd (hf.mono (T := fun k => k = p ∨ k = b ∨ k = c) (fun _ _ h => by omega)))
    clear hd hf
    rcases delete_code st freshN with h0 | h5 | h45
    · have e1 := Lib.hid (show swapEnd code st = ((dkDelete st freshN).1, 44) from by unfold swapEnd; rw [if_pos h44, if_pos (.inl h0)])
      rw [h0]
      clear h0
      go_wp2
      go_end0
      rw [e1.out]
      exact ⟨rfl, by rw [c1, h44], HD.out.1, HD.out.2⟩
    · have e1 := Lib.hid (show swapEnd code st = ((dkDelete st freshN).1, 44) from by unfold swapEnd; rw [if_pos h44, if_pos (.inr h5)])
      rw [h5]
      clear h5
      go_wp2
      go_end0
      rw [e1.out]
      exact ⟨rfl, by rw [c1, h44], HD.out.1, HD.out.2⟩
    · have e1 := Lib.hid (show swapEnd code st = dkDelete st freshN from by unfold swapEnd; rw [if_pos h44, if_neg (by omega)])
      have e2 := Lib.hid h45
      rw [h45]
      clear h45
      go_wp2
      go_end0
      rw [e1.out]
      refine ⟨rfl, by rw [World.cell?_setCell_same _ _ _ c1, e2.out], HD.out.1.kept (setCell_fr _ _) (by show ¬ p = c; omega) (by show ¬ b = c; omega), HD.out.2.setCell ⟨c, 0, none⟩ (fun _ => .inr (.inr rfl)) _⟩
  · have e1 := Lib.hid (show swapEnd code st = (st, code) from by unfold swapEnd; rw [if_neg h44])
    go_wp2
    go_end0
    rw [e1.out]
    exact ⟨rfl, hc0, H.out, Fr.refl _ _⟩

end Go.Proofs.YtppghhophaobdaaGreatDoor
