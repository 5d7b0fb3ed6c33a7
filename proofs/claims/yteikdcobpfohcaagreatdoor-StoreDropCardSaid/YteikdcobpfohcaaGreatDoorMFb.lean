/- The walk of wire.Reader's Short. -/
import Derived.Test.YteikdcobpfohcaaGreatDoorMFa
import Derived.Deep.QuietTactic
import Derived.BigQuiet
import Derived.Test.YteikdcobpfohcaaGreatDoorMDm
namespace Go.Proofs.YteikdcobpfohcaaGreatDoor
open Go.RowKit

set_option maxHeartbeats 1000000 in
theorem rd_upto (w : World) (p : Nat) (s : ByteArray) (st : RdSt) (h : IsRd w p s st) (n most frm : Nat) (hf : frm ≤ s.size) :
    Calls Tryz.prog 241 #[.pointer (some ⟨p, 0, none⟩), .int .u64 (n : Int), .int .u64 (most : Int), .int .i64 (frm : Int)] w fun e w' => e = .returned (.int .u64 (((if most < n then (0, ⟨frm, 40, frm⟩) else (n, st)) : Nat × RdSt).1 : Int)) ∧ IsRd w' p s ((if most < n then (0, ⟨frm, 40, frm⟩) else (n, st)) : Nat × RdSt).2 ∧ Fr (fun k => k = p) w w' := by
  have H := Lib.hid h
  clear h
  by_cases hm : most < n
  · rw [if_pos hm]
    go_enter Tryz.func241, Tryz.ntmps241
    go_wp2_with fail
    refine (rd_wrong _ p s st H.out 40 frm hf).mono ?_
    rintro e w1 ⟨rfl, h1, hf1⟩
    have H1 := Lib.hid h1
    clear h1
    go_wp2
    go_ret
    exact ⟨rfl, H1.out, hf1⟩
  · rw [if_neg hm]
    go_enter Tryz.func241, Tryz.ntmps241
    go_wp2
    go_ret
    exact ⟨rfl, H.out, Fr.refl _ _⟩
end Go.Proofs.YteikdcobpfohcaaGreatDoor

/- The walks of wire.Reader's U8. -/
namespace Go.Proofs.YteikdcobpfohcaaGreatDoor
open Go.RowKit

theorem val_lt1 {l : List UInt8} (h : l.length ≤ 1) : val l < 256 := by
  have h1 := val_lt l
  have h2 : 256 ^ l.length ≤ 256 ^ 1 := Nat.pow_le_pow_right (by decide) h
  exact Nat.lt_of_lt_of_le h1 h2

set_option maxHeartbeats 1000000 in
theorem rd_fixed8 (w : World) (p : Nat) (s : ByteArray) (st : RdSt) (h : IsRd w p s st) :
    Calls Tryz.prog 204 #[.pointer (some ⟨p, 0, none⟩), .int .i64 1] w fun e w' => e = .returned (.int .u8 ((st.fixed s.data.toList 1).1 : Int)) ∧ IsRd w' p s (st.fixed s.data.toList 1).2 ∧ Fr (fun k => k = p) w w' := by
  unfold RdSt.fixed
  have H := Lib.hid h
  clear h
  go_enter Tryz.func204, Tryz.ntmps204
  go_wp2_with fail
  refine (rd_take _ p s st H.out 1 (by omega)).mono ?_
  rintro e w1 ⟨r, hr, rfl, h1, hf1⟩
  have hrs : r.size ≤ 1 := by rw [size_of_list hr]; exact take_len st s.data.toList 1
  have HR := Lib.hid hr
  have H1 := Lib.hid h1
  clear hr h1
  go_wp2
  go_loop [7, 17] (fun v i => ∃ (j n : Nat), j ≤ r.size ∧ i = .int .i64 j ∧ v = .int .u64 (n : Int) ∧ n = val (r.data.toList.take j)) (fun _ i => r.size - (intOf i).toNat)
  case atStart => exact ⟨0, 0, by omega, rfl, rfl, rfl⟩
  case round =>
    obtain ⟨j, n, hj, rfl, rfl, hn⟩ := hrel
    by_cases hlt : j < r.size
    · have hb7 : n < 72057594037927936 := by rw [hn]; exact val_lt7 (by rw [List.length_take]; omega)
      have HO := Lib.hid (or_byte n r[j] hb7)
      have HN := Lib.hid hn
      clear hn
      go_wp2
      go_round
      case rel => exact ⟨j + 1, n * 256 + r[j].toNat, by omega, by go_num, by rw [HO.out], by rw [val_take_succ r j hlt, HN.out]⟩
      case measure => simp [intOf]; omega
    · have hb2 : n < 256 := by rw [hn]; exact val_lt1 (by rw [List.length_take, size_toList]; omega)
      have HN := Lib.hid hn
      clear hn
      go_wp2
      go_ret
      exact ⟨by rw [← HR.out, HN.out, List.take_of_length_le (by rw [size_toList]; omega)]; rfl, H1.out, hf1⟩

set_option maxHeartbeats 400000 in
theorem rd_u8 (w : World) (p : Nat) (s : ByteArray) (st : RdSt) (h : IsRd w p s st) :
    Calls Tryz.prog 144 #[.pointer (some ⟨p, 0, none⟩)] w fun e w' => e = .returned (.int .u8 ((st.fixed s.data.toList 1).1 : Int)) ∧ IsRd w' p s (st.fixed s.data.toList 1).2 ∧ Fr (fun k => k = p) w w' := by
  have H := Lib.hid h
  clear h
  go_enter Tryz.func144, Tryz.ntmps144
  go_wp2_with fail
  refine (rd_fixed8 _ p s st H.out).mono ?_
  rintro e w1 ⟨rfl, h1, hf1⟩
  have H1 := Lib.hid h1
  clear h1
  go_wp2
  go_ret
  exact ⟨rfl, H1.out, hf1⟩
theorem fixed_lt1 (st : RdSt) (s : List UInt8) : (st.fixed s 1).1 < 256 := val_lt1 (take_len st s 1)

end Go.Proofs.YteikdcobpfohcaaGreatDoor
