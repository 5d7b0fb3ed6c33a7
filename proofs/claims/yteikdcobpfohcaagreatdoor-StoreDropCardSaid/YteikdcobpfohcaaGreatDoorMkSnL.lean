/- The walks of snap.list where there are none. -/
import Derived.Test.YteikdcobpfohcaaGreatDoorMkSnR
namespace Go.Proofs.YteikdcobpfohcaaGreatDoor
open Go.RowKit

set_option maxHeartbeats 400000 in
theorem list_account (fv : Value) (w : World) (q p : Nat) (s : ByteArray) (k : Nat) (h : RdrAt w q p s ⟨k, 0, 0⟩) (h0 : s.data.toList[k]? = some 0) :
    Calls Tryz.prog 132 #[.pointer (some ⟨q, 0, none⟩), fv] w fun e w' => e = .returned (.slice none 0 0) ∧ RdrAt w' q p s ⟨k + 1, 0, 0⟩ ∧ Fr (fun k => k = p) w w' := by
  have hsz := h.size
  have hss := h.rd.2.2
  have H := Lib.hid h
  have HQ := Lib.hid (short_at (k := k) (most := s.size) h0 (by decide) (by simp))
  clear h h0
  go_enter Tryz.func132, Tryz.ntmps132
  go_wp2_with fail
  refine (snr_upto w q p s _ H.out s.size (by omega)).mono ?_
  rintro e w1 ⟨rfl, h1, hf1⟩
  rw [HQ.out] at h1 ⊢
  rw [wrap_zero]
  have H1 := Lib.hid h1
  clear h1
  go_wp2
  go_loopw [5, 15] (fun l i wr => l = .slice none 0 0 ∧ i = .int .i64 0 ∧ wr = w1) (fun _ _ _ => 0)
  case atStart => exact ⟨rfl, rfl, rfl⟩
  case round =>
    obtain ⟨rfl, rfl, rfl⟩ := hrel
    go_wp2
    go_ret
    exact ⟨rfl, H1.out, hf1⟩

set_option maxHeartbeats 400000 in
theorem list_instrument (fv : Value) (w : World) (q p : Nat) (s : ByteArray) (k : Nat) (h : RdrAt w q p s ⟨k, 0, 0⟩) (h0 : s.data.toList[k]? = some 0) :
    Calls Tryz.prog 136 #[.pointer (some ⟨q, 0, none⟩), fv] w fun e w' => e = .returned (.slice none 0 0) ∧ RdrAt w' q p s ⟨k + 1, 0, 0⟩ ∧ Fr (fun k => k = p) w w' := by
  have hsz := h.size
  have hss := h.rd.2.2
  have H := Lib.hid h
  have HQ := Lib.hid (short_at (k := k) (most := s.size) h0 (by decide) (by simp))
  clear h h0
  go_enter Tryz.func136, Tryz.ntmps136
  go_wp2_with fail
  refine (snr_upto w q p s _ H.out s.size (by omega)).mono ?_
  rintro e w1 ⟨rfl, h1, hf1⟩
  rw [HQ.out] at h1 ⊢
  rw [wrap_zero]
  have H1 := Lib.hid h1
  clear h1
  go_wp2
  go_loopw [5, 15] (fun l i wr => l = .slice none 0 0 ∧ i = .int .i64 0 ∧ wr = w1) (fun _ _ _ => 0)
  case atStart => exact ⟨rfl, rfl, rfl⟩
  case round =>
    obtain ⟨rfl, rfl, rfl⟩ := hrel
    go_wp2
    go_ret
    exact ⟨rfl, H1.out, hf1⟩

set_option maxHeartbeats 400000 in
theorem list_row (fv : Value) (w : World) (q p : Nat) (s : ByteArray) (k : Nat) (h : RdrAt w q p s ⟨k, 0, 0⟩) (h0 : s.data.toList[k]? = some 0) :
    Calls Tryz.prog 138 #[.pointer (some ⟨q, 0, none⟩), fv] w fun e w' => e = .returned (.slice none 0 0) ∧ RdrAt w' q p s ⟨k + 1, 0, 0⟩ ∧ Fr (fun k => k = p) w w' := by
  have hsz := h.size
  have hss := h.rd.2.2
  have H := Lib.hid h
  have HQ := Lib.hid (short_at (k := k) (most := s.size) h0 (by decide) (by simp))
  clear h h0
  go_enter Tryz.func138, Tryz.ntmps138
  go_wp2_with fail
  refine (snr_upto w q p s _ H.out s.size (by omega)).mono ?_
  rintro e w1 ⟨rfl, h1, hf1⟩
  rw [HQ.out] at h1 ⊢
  rw [wrap_zero]
  have H1 := Lib.hid h1
  clear h1
  go_wp2
  go_loopw [5, 15] (fun l i wr => l = .slice none 0 0 ∧ i = .int .i64 0 ∧ wr = w1) (fun _ _ _ => 0)
  case atStart => exact ⟨rfl, rfl, rfl⟩
  case round =>
    obtain ⟨rfl, rfl, rfl⟩ := hrel
    go_wp2
    go_ret
    exact ⟨rfl, H1.out, hf1⟩

set_option maxHeartbeats 400000 in
theorem list_order (fv : Value) (w : World) (q p : Nat) (s : ByteArray) (k : Nat) (h : RdrAt w q p s ⟨k, 0, 0⟩) (h0 : s.data.toList[k]? = some 0) :
    Calls Tryz.prog 142 #[.pointer (some ⟨q, 0, none⟩), fv] w fun e w' => e = .returned (.slice none 0 0) ∧ RdrAt w' q p s ⟨k + 1, 0, 0⟩ ∧ Fr (fun k => k = p) w w' := by
  have hsz := h.size
  have hss := h.rd.2.2
  have H := Lib.hid h
  have HQ := Lib.hid (short_at (k := k) (most := s.size) h0 (by decide) (by simp))
  clear h h0
  go_enter Tryz.func142, Tryz.ntmps142
  go_wp2_with fail
  refine (snr_upto w q p s _ H.out s.size (by omega)).mono ?_
  rintro e w1 ⟨rfl, h1, hf1⟩
  rw [HQ.out] at h1 ⊢
  rw [wrap_zero]
  have H1 := Lib.hid h1
  clear h1
  go_wp2
  go_loopw [5, 15] (fun l i wr => l = .slice none 0 0 ∧ i = .int .i64 0 ∧ wr = w1) (fun _ _ _ => 0)
  case atStart => exact ⟨rfl, rfl, rfl⟩
  case round =>
    obtain ⟨rfl, rfl, rfl⟩ := hrel
    go_wp2
    go_ret
    exact ⟨rfl, H1.out, hf1⟩

set_option maxHeartbeats 400000 in
theorem list_auction (fv : Value) (w : World) (q p : Nat) (s : ByteArray) (k : Nat) (h : RdrAt w q p s ⟨k, 0, 0⟩) (h0 : s.data.toList[k]? = some 0) :
    Calls Tryz.prog 145 #[.pointer (some ⟨q, 0, none⟩), fv] w fun e w' => e = .returned (.slice none 0 0) ∧ RdrAt w' q p s ⟨k + 1, 0, 0⟩ ∧ Fr (fun k => k = p) w w' := by
  have hsz := h.size
  have hss := h.rd.2.2
  have H := Lib.hid h
  have HQ := Lib.hid (short_at (k := k) (most := s.size) h0 (by decide) (by simp))
  clear h h0
  go_enter Tryz.func145, Tryz.ntmps145
  go_wp2_with fail
  refine (snr_upto w q p s _ H.out s.size (by omega)).mono ?_
  rintro e w1 ⟨rfl, h1, hf1⟩
  rw [HQ.out] at h1 ⊢
  rw [wrap_zero]
  have H1 := Lib.hid h1
  clear h1
  go_wp2
  go_loopw [5, 15] (fun l i wr => l = .slice none 0 0 ∧ i = .int .i64 0 ∧ wr = w1) (fun _ _ _ => 0)
  case atStart => exact ⟨rfl, rfl, rfl⟩
  case round =>
    obtain ⟨rfl, rfl, rfl⟩ := hrel
    go_wp2
    go_ret
    exact ⟨rfl, H1.out, hf1⟩

set_option maxHeartbeats 400000 in
theorem list_open (fv : Value) (w : World) (q p : Nat) (s : ByteArray) (k : Nat) (h : RdrAt w q p s ⟨k, 0, 0⟩) (h0 : s.data.toList[k]? = some 0) :
    Calls Tryz.prog 149 #[.pointer (some ⟨q, 0, none⟩), fv] w fun e w' => e = .returned (.slice none 0 0) ∧ RdrAt w' q p s ⟨k + 1, 0, 0⟩ ∧ Fr (fun k => k = p) w w' := by
  have hsz := h.size
  have hss := h.rd.2.2
  have H := Lib.hid h
  have HQ := Lib.hid (short_at (k := k) (most := s.size) h0 (by decide) (by simp))
  clear h h0
  go_enter Tryz.func149, Tryz.ntmps149
  go_wp2_with fail
  refine (snr_upto w q p s _ H.out s.size (by omega)).mono ?_
  rintro e w1 ⟨rfl, h1, hf1⟩
  rw [HQ.out] at h1 ⊢
  rw [wrap_zero]
  have H1 := Lib.hid h1
  clear h1
  go_wp2
  go_loopw [5, 15] (fun l i wr => l = .slice none 0 0 ∧ i = .int .i64 0 ∧ wr = w1) (fun _ _ _ => 0)
  case atStart => exact ⟨rfl, rfl, rfl⟩
  case round =>
    obtain ⟨rfl, rfl, rfl⟩ := hrel
    go_wp2
    go_ret
    exact ⟨rfl, H1.out, hf1⟩

set_option maxHeartbeats 400000 in
theorem list_lot (fv : Value) (w : World) (q p : Nat) (s : ByteArray) (k : Nat) (h : RdrAt w q p s ⟨k, 0, 0⟩) (h0 : s.data.toList[k]? = some 0) :
    Calls Tryz.prog 151 #[.pointer (some ⟨q, 0, none⟩), fv] w fun e w' => e = .returned (.slice none 0 0) ∧ RdrAt w' q p s ⟨k + 1, 0, 0⟩ ∧ Fr (fun k => k = p) w w' := by
  have hsz := h.size
  have hss := h.rd.2.2
  have H := Lib.hid h
  have HQ := Lib.hid (short_at (k := k) (most := s.size) h0 (by decide) (by simp))
  clear h h0
  go_enter Tryz.func151, Tryz.ntmps151
  go_wp2_with fail
  refine (snr_upto w q p s _ H.out s.size (by omega)).mono ?_
  rintro e w1 ⟨rfl, h1, hf1⟩
  rw [HQ.out] at h1 ⊢
  rw [wrap_zero]
  have H1 := Lib.hid h1
  clear h1
  go_wp2
  go_loopw [5, 15] (fun l i wr => l = .slice none 0 0 ∧ i = .int .i64 0 ∧ wr = w1) (fun _ _ _ => 0)
  case atStart => exact ⟨rfl, rfl, rfl⟩
  case round =>
    obtain ⟨rfl, rfl, rfl⟩ := hrel
    go_wp2
    go_ret
    exact ⟨rfl, H1.out, hf1⟩

set_option maxHeartbeats 400000 in
theorem list_position (fv : Value) (w : World) (q p : Nat) (s : ByteArray) (k : Nat) (h : RdrAt w q p s ⟨k, 0, 0⟩) (h0 : s.data.toList[k]? = some 0) :
    Calls Tryz.prog 153 #[.pointer (some ⟨q, 0, none⟩), fv] w fun e w' => e = .returned (.slice none 0 0) ∧ RdrAt w' q p s ⟨k + 1, 0, 0⟩ ∧ Fr (fun k => k = p) w w' := by
  have hsz := h.size
  have hss := h.rd.2.2
  have H := Lib.hid h
  have HQ := Lib.hid (short_at (k := k) (most := s.size) h0 (by decide) (by simp))
  clear h h0
  go_enter Tryz.func153, Tryz.ntmps153
  go_wp2_with fail
  refine (snr_upto w q p s _ H.out s.size (by omega)).mono ?_
  rintro e w1 ⟨rfl, h1, hf1⟩
  rw [HQ.out] at h1 ⊢
  rw [wrap_zero]
  have H1 := Lib.hid h1
  clear h1
  go_wp2
  go_loopw [5, 15] (fun l i wr => l = .slice none 0 0 ∧ i = .int .i64 0 ∧ wr = w1) (fun _ _ _ => 0)
  case atStart => exact ⟨rfl, rfl, rfl⟩
  case round =>
    obtain ⟨rfl, rfl, rfl⟩ := hrel
    go_wp2
    go_ret
    exact ⟨rfl, H1.out, hf1⟩

set_option maxHeartbeats 400000 in
theorem list_line (fv : Value) (w : World) (q p : Nat) (s : ByteArray) (k : Nat) (h : RdrAt w q p s ⟨k, 0, 0⟩) (h0 : s.data.toList[k]? = some 0) :
    Calls Tryz.prog 155 #[.pointer (some ⟨q, 0, none⟩), fv] w fun e w' => e = .returned (.slice none 0 0) ∧ RdrAt w' q p s ⟨k + 1, 0, 0⟩ ∧ Fr (fun k => k = p) w w' := by
  have hsz := h.size
  have hss := h.rd.2.2
  have H := Lib.hid h
  have HQ := Lib.hid (short_at (k := k) (most := s.size) h0 (by decide) (by simp))
  clear h h0
  go_enter Tryz.func155, Tryz.ntmps155
  go_wp2_with fail
  refine (snr_upto w q p s _ H.out s.size (by omega)).mono ?_
  rintro e w1 ⟨rfl, h1, hf1⟩
  rw [HQ.out] at h1 ⊢
  rw [wrap_zero]
  have H1 := Lib.hid h1
  clear h1
  go_wp2
  go_loopw [5, 15] (fun l i wr => l = .slice none 0 0 ∧ i = .int .i64 0 ∧ wr = w1) (fun _ _ _ => 0)
  case atStart => exact ⟨rfl, rfl, rfl⟩
  case round =>
    obtain ⟨rfl, rfl, rfl⟩ := hrel
    go_wp2
    go_ret
    exact ⟨rfl, H1.out, hf1⟩

end Go.Proofs.YteikdcobpfohcaaGreatDoor
