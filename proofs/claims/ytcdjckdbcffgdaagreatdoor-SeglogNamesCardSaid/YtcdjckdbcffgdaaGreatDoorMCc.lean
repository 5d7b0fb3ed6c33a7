/- The walks of wire.Writer's U32, Low and wire.Reader's U32, Low, At; math/bits.ReverseBytes32. -/
import Derived.Test.YtcdjckdbcffgdaaGreatDoorMCb
import Derived.Test.YtcdjckdbcffgdaaGreatDoorMCg
namespace Go.Proofs.YtcdjckdbcffgdaaGreatDoor
open Go.RowKit

/-- The bytes of a word in the other row. -/
def rev32 (x : BitVec 32) : BitVec 32 :=
  (((x >>> 8 &&& 0x00ff00ff#32) ||| ((x &&& 0x00ff00ff#32) <<< 8)) >>> 16) ||| (((x >>> 8 &&& 0x00ff00ff#32) ||| ((x &&& 0x00ff00ff#32) <<< 8)) <<< 16)

theorem eight {i : Nat} (h : i < 8) : i = 0 ∨ i = 1 ∨ i = 2 ∨ i = 3 ∨ i = 4 ∨ i = 5 ∨ i = 6 ∨ i = 7 := by omega
theorem rev_b (c : BitVec 32) : ((rev32 c) >>> 24).truncate 8 = c.truncate 8 ∧ ((rev32 c) >>> 16).truncate 8 = (c >>> 8).truncate 8 ∧ ((rev32 c) >>> 8).truncate 8 = (c >>> 16).truncate 8 ∧ (rev32 c).truncate 8 = (c >>> 24).truncate 8 := by
  refine ⟨?_, ?_, ?_, ?_⟩ <;> (apply BitVec.eq_of_getLsbD_eq; intro i hi; rcases eight hi with rfl | rfl | rfl | rfl | rfl | rfl | rfl | rfl <;> simp [rev32])
theorem byte_of (c : BitVec 32) (k : Nat) (m : Nat) (hm : m = c.toNat / 2 ^ k) : UInt8.ofNat (m % 256) = UInt8.ofBitVec ((c >>> k).truncate 8) := by
  apply UInt8.toBitVec_inj.1
  apply BitVec.eq_of_toNat_eq
  simp [hm, Nat.shiftRight_eq_div_pow]
theorem be_rev (c : BitVec 32) : be 4 (rev32 c).toNat = Crc.four c := by
  obtain ⟨h1, h2, h3, h4⟩ := rev_b c
  unfold Crc.four
  rw [← h1, ← h2, ← h3, ← h4]
  simp only [be, List.nil_append, List.cons_append]
  rw [byte_of (rev32 c) 24 _ (by omega), byte_of (rev32 c) 16 _ (by omega), byte_of (rev32 c) 8 _ (by omega), byte_of (rev32 c) 0 _ (by omega)]
  simp
theorem val_four (c : BitVec 32) : val (Crc.four c) = (rev32 c).toNat := by rw [← be_rev, val_be 4 _ (rev32 c).isLt]
theorem four_inj {a b : BitVec 32} (h : Crc.four a = Crc.four b) : a = b := by
  unfold Crc.four at h
  simp only [List.cons.injEq, and_true, UInt8.ofBitVec.injEq] at h
  obtain ⟨h1, h2, h3, h4⟩ := h
  apply BitVec.eq_of_getLsbD_eq
  intro i hi
  by_cases a1 : i < 8
  · have := congrArg (fun x => x.getLsbD i) h1
    simpa [a1] using this
  by_cases a2 : i < 16
  · have := congrArg (fun x => x.getLsbD (i - 8)) h2
    simpa [show i - 8 < 8 from by omega, show 8 + (i - 8) = i from by omega] using this
  by_cases a3 : i < 24
  · have := congrArg (fun x => x.getLsbD (i - 16)) h3
    simpa [show i - 16 < 8 from by omega, show 16 + (i - 16) = i from by omega] using this
  · have := congrArg (fun x => x.getLsbD (i - 24)) h4
    simpa [show i - 24 < 8 from by omega, show 24 + (i - 24) = i from by omega] using this
theorem rev_rev (c : BitVec 32) : rev32 (rev32 c) = c := by
  apply four_inj
  obtain ⟨h1, h2, h3, h4⟩ := rev_b (rev32 c)
  obtain ⟨g1, g2, g3, g4⟩ := rev_b c
  apply List.reverse_inj.1
  obtain ⟨k1, k2, k3, k4⟩ := rev_b (rev32 (rev32 c))
  simp only [Crc.four]
  have e1 : (rev32 (rev32 c)).truncate 8 = c.truncate 8 := by rw [h4, g1]
  have e2 : ((rev32 (rev32 c)) >>> 8).truncate 8 = (c >>> 8).truncate 8 := by rw [h3, g2]
  have e3 : ((rev32 (rev32 c)) >>> 16).truncate 8 = (c >>> 16).truncate 8 := by rw [h2, g3]
  have e4 : ((rev32 (rev32 c)) >>> 24).truncate 8 = (c >>> 24).truncate 8 := by rw [h1, g4]
  rw [e1, e2, e3, e4]

theorem shl_toNat (a : BitVec 32) (k : Nat) : ((a <<< k).toNat : Int) = (a.toNat : Int) * (2 ^ k : Nat) % (4294967296 : Int) := by
  rw [BitVec.toNat_shiftLeft, Nat.shiftLeft_eq]; omega

set_option maxHeartbeats 400000 in
theorem reverse_any (x : BitVec 32) (w : World) :
    Calls Tryz.prog 146 #[.int .u32 (x.toNat : Int)] w fun e w' => e = .returned (.int .u32 ((rev32 x).toNat : Int)) ∧ w = w' := by
  have hx := x.isLt
  go_enter Tryz.func146, Tryz.ntmps146
  go_wp2
  go_ret
  refine ⟨ret_int ?_, rfl⟩
  have e1 : (x.toNat : Int) / (256 : Int) = ((x >>> 8).toNat : Int) := by rw [shr_toNat]; rfl
  have e2 : (16711935 : Int) = ((0x00ff00ff#32).toNat : Int) := by decide
  rw [e1, e2, bits_and32, bits_and32]
  have e3 : (((x &&& 0x00ff00ff#32).toNat : Int) * (256 : Int) % (4294967296 : Int)) = (((x &&& 0x00ff00ff#32) <<< 8).toNat : Int) := by rw [shl_toNat]; rfl
  rw [e3, bits_or32]
  have e4 := shr_toNat ((x >>> 8 &&& 0x00ff00ff#32) ||| ((x &&& 0x00ff00ff#32) <<< 8)) 16
  have e5 := shl_toNat ((x >>> 8 &&& 0x00ff00ff#32) ||| ((x &&& 0x00ff00ff#32) <<< 8)) 16
  simp only [Nat.reducePow, Int.cast_ofNat_Int] at e4 e5
  rw [← e4, ← e5, bits_or32]
  rfl

set_option maxHeartbeats 400000 in
theorem wr_u32 (n : Nat) (p : Nat) (v : Value) (L : List UInt8) (w : World) (hn : n < 4294967296) (h : IsWr w p v L) (hL : L.length ≤ 1073741824) :
    Calls Tryz.prog 109 #[.pointer (some ⟨p, 0, none⟩), .int .u32 (n : Int)] w fun e w' => e = .returned (.tuple #[]) ∧ ∃ v', WrTo p w w' v v' (L ++ be 4 n) := by
  have H := Lib.hid h
  clear h
  go_enter Tryz.func109, Tryz.ntmps109
  go_wp2_with fail
  refine (fixed4 n p v L _ H.out hL).mono ?_
  rintro e w1 ⟨rfl, h1⟩
  have H1 := Lib.hid h1
  clear h1
  go_wp2
  go_end0
  exact ⟨rfl, H1.out⟩
set_option maxHeartbeats 400000 in
theorem wr_low (c : BitVec 32) (p : Nat) (v : Value) (L : List UInt8) (w : World) (h : IsWr w p v L) (hL : L.length ≤ 1073741824) :
    Calls Tryz.prog 111 #[.pointer (some ⟨p, 0, none⟩), .int .u32 (c.toNat : Int)] w fun e w' => e = .returned (.tuple #[]) ∧ ∃ v', WrTo p w w' v v' (L ++ Crc.four c) := by
  have H := Lib.hid h
  clear h
  have HB := Lib.hid (be_rev c)
  go_enter Tryz.func111, Tryz.ntmps111
  go_wp2_with (go_at_call 146; refine (reverse_any c _).mono ?_; rintro e w' ⟨rfl, rfl⟩)
  refine (wr_u32 (rev32 c).toNat p v L _ (rev32 c).isLt H.out hL).mono ?_
  rintro e w1 ⟨rfl, h1⟩
  have H1 := Lib.hid h1
  clear h1
  go_wp2
  go_end0
  exact ⟨rfl, by rw [← HB.out]; exact H1.out⟩

theorem val_lt4 {l : List UInt8} (h : l.length ≤ 4) : val l < 4294967296 := by
  have h1 := val_lt l
  have h2 : 256 ^ l.length ≤ 256 ^ 4 := Nat.pow_le_pow_right (by decide) h
  exact Nat.lt_of_lt_of_le h1 h2

set_option maxHeartbeats 1000000 in
theorem rd_fixed32 (w : World) (p : Nat) (s : ByteArray) (st : RdSt) (h : IsRd w p s st) :
    Calls Tryz.prog 236 #[.pointer (some ⟨p, 0, none⟩), .int .i64 4] w fun e w' => e = .returned (.int .u32 ((st.fixed s.data.toList 4).1 : Int)) ∧ IsRd w' p s (st.fixed s.data.toList 4).2 ∧ Fr (fun k => k = p) w w' := by
  unfold RdSt.fixed
  have H := Lib.hid h
  clear h
  go_enter Tryz.func236, Tryz.ntmps236
  go_wp2_with fail
  refine (rd_take _ p s st H.out 4 (by omega)).mono ?_
  rintro e w1 ⟨r, hr, rfl, h1, hf1⟩
  have hrs : r.size ≤ 4 := by rw [size_of_list hr]; exact take_len st s.data.toList 4
  have HR := Lib.hid hr
  have H1 := Lib.hid h1
  clear hr h1
  go_wp2
  go_loop [7, 17] (fun v i => ∃ (j n : Nat), j ≤ r.size ∧ i = .int .i64 j ∧ v = .int .u64 (n : Int) ∧ n = val (r.data.toList.take j)) (fun _ i => r.size - (intOf i).toNat)
  case atStart => exact ⟨0, 0, by omega, rfl, rfl, rfl⟩
  case round =>
    obtain ⟨j, n, hj, rfl, rfl, hn⟩ := hrel
    by_cases hlt : j < r.size
    · have hb7 : n < 72057594037927936 := by rw [hn]; exact val_lt7 (by rw [List.length_take]; omega)
      have HO := Lib.hid (or_byte n r[j] hb7)
      have HN := Lib.hid hn
      clear hn
      go_wp2
      go_round
      case rel => exact ⟨j + 1, n * 256 + r[j].toNat, by omega, by go_num, by rw [HO.out], by rw [val_take_succ r j hlt, HN.out]⟩
      case measure => simp [intOf]; omega
    · have hb2 : n < 4294967296 := by rw [hn]; exact val_lt4 (by rw [List.length_take, size_toList]; omega)
      have HN := Lib.hid hn
      clear hn
      go_wp2
      go_ret
      exact ⟨by rw [← HR.out, HN.out, List.take_of_length_le (by rw [size_toList]; omega)]; rfl, H1.out, hf1⟩

set_option maxHeartbeats 400000 in
theorem rd_u32 (w : World) (p : Nat) (s : ByteArray) (st : RdSt) (h : IsRd w p s st) :
    Calls Tryz.prog 204 #[.pointer (some ⟨p, 0, none⟩)] w fun e w' => e = .returned (.int .u32 ((st.fixed s.data.toList 4).1 : Int)) ∧ IsRd w' p s (st.fixed s.data.toList 4).2 ∧ Fr (fun k => k = p) w w' := by
  have H := Lib.hid h
  clear h
  go_enter Tryz.func204, Tryz.ntmps204
  go_wp2_with fail
  refine (rd_fixed32 _ p s st H.out).mono ?_
  rintro e w1 ⟨rfl, h1, hf1⟩
  have H1 := Lib.hid h1
  clear h1
  go_wp2
  go_ret
  exact ⟨rfl, H1.out, hf1⟩
theorem fixed_lt4 (st : RdSt) (s : List UInt8) : (st.fixed s 4).1 < 4294967296 := val_lt4 (take_len st s 4)
set_option maxHeartbeats 400000 in
theorem rd_low (w : World) (p : Nat) (s : ByteArray) (st : RdSt) (h : IsRd w p s st) :
    Calls Tryz.prog 205 #[.pointer (some ⟨p, 0, none⟩)] w fun e w' => ∃ c : BitVec 32, c = rev32 (BitVec.ofNat 32 (st.fixed s.data.toList 4).1) ∧ e = .returned (.int .u32 (c.toNat : Int)) ∧ IsRd w' p s (st.fixed s.data.toList 4).2 ∧ Fr (fun k => k = p) w w' := by
  have H := Lib.hid h
  have hlt := fixed_lt4 st s.data.toList
  clear h
  obtain ⟨x, hx⟩ : ∃ x : BitVec 32, x = BitVec.ofNat 32 (st.fixed s.data.toList 4).1 := ⟨_, rfl⟩
  have hxn : x.toNat = (st.fixed s.data.toList 4).1 := by rw [hx, BitVec.toNat_ofNat]; exact Nat.mod_eq_of_lt hlt
  have HX := Lib.hid hx
  have HXN := Lib.hid hxn
  clear hx hxn hlt
  go_enter Tryz.func205, Tryz.ntmps205
  go_wp2_with fail
  refine (rd_u32 _ p s st H.out).mono ?_
  rintro e w1 ⟨rfl, h1, hf1⟩
  rw [← HXN.out]
  have H1 := Lib.hid h1
  clear h1
  go_wp2_with (go_at_call 146; refine (reverse_any x _).mono ?_; rintro e w' ⟨rfl, rfl⟩)
  go_ret
  exact ⟨_, by rw [HX.out], rfl, H1.out, hf1⟩
set_option maxHeartbeats 400000 in
theorem rd_at (w : World) (p : Nat) (s : ByteArray) (st : RdSt) (h : IsRd w p s st) :
    Calls Tryz.prog 206 #[.pointer (some ⟨p, 0, none⟩)] w fun e w' => e = .returned (.int .i64 (st.at_ : Int)) ∧ w = w' := by
  obtain ⟨c0, c1, c2, c3⟩ := h.cs
  clear h
  go_enter Tryz.func206, Tryz.ntmps206
  go_wp2
  go_ret
  exact ⟨rfl, rfl⟩
end Go.Proofs.YtcdjckdbcffgdaaGreatDoor

/- The walks of frame.length, Size, Make, Read. -/
namespace Go.Proofs.YtcdjckdbcffgdaaGreatDoor
open Go.RowKit

/-- May a payload have so many bytes? -/
def payB (n : Int) : Bool := decide (1 ≤ n) && decide (n ≤ 4096)
set_option maxHeartbeats 400000 in
theorem length_any (n : Int) (w : World) : Calls Tryz.prog 108 #[.int .i64 n] w fun e w' => e = .returned (.bool (payB n)) ∧ w = w' := by
  by_cases h1 : 1 ≤ n
  · by_cases h2 : n ≤ 4096
    · have HP := Lib.hid (show payB n = true from by unfold payB; simp [h1, h2])
      go_enter Tryz.func108, Tryz.ntmps108
      go_wp2
      go_ret
      exact ⟨ret_bool HP.out.symm, rfl⟩
    · have HP := Lib.hid (show payB n = false from by unfold payB; simp [h2])
      go_enter Tryz.func108, Tryz.ntmps108
      go_wp2
      go_ret
      exact ⟨ret_bool HP.out.symm, rfl⟩
  · have HP := Lib.hid (show payB n = false from by unfold payB; simp [h1])
    go_enter Tryz.func108, Tryz.ntmps108
    go_wp2
    go_ret
    exact ⟨ret_bool HP.out.symm, rfl⟩
/-- How many bytes a frame has. -/
def frSize (n : Int) : Int := if payB n then 16 + n else 0
set_option maxHeartbeats 400000 in
theorem frsize_any (n : Int) (w : World) : Calls Tryz.prog 103 #[.int .i64 n] w fun e w' => e = .returned (.int .i64 (frSize n)) ∧ w = w' := by
  cases hb : payB n
  · have HS := Lib.hid (show frSize n = 0 from by unfold frSize; rw [hb]; rfl)
    have HB := Lib.hid hb
    clear hb
    go_enter Tryz.func103, Tryz.ntmps103
    go_wp2_with (go_at_call 108; refine (length_any n _).mono ?_; rintro e w' ⟨rfl, rfl⟩; rw [HB.out])
    go_ret
    exact ⟨ret_int HS.out.symm, rfl⟩
  · have hn : 1 ≤ n ∧ n ≤ 4096 := by unfold payB at hb; simpa using hb
    have h1 := hn.1
    have h2 := hn.2
    clear hn
    have HS := Lib.hid (show frSize n = 16 + n from by unfold frSize; rw [hb]; rfl)
    have HB := Lib.hid hb
    clear hb
    go_enter Tryz.func103, Tryz.ntmps103
    go_wp2_with (go_at_call 108; refine (length_any n _).mono ?_; rintro e w' ⟨rfl, rfl⟩; rw [HB.out])
    go_ret
    exact ⟨ret_int HS.out.symm, rfl⟩

/-- What Make tells. -/
def mkF (q : Int) (p : List UInt8) : List UInt8 × Int :=
  if q < 0 ∨ 1048576 ≤ q then ([], 1) else if p = [] then ([], 4) else if 4096 < p.length then ([], 40) else (frBytes q.toNat p, 0)
def TextP (r : List UInt8 × Int) (w : World) (e : Ending) (w' : World) : Prop := (∃ s : ByteArray, s.data.toList = r.1 ∧ e = .returned (.tuple #[.string s, .int .i64 r.2])) ∧ Below w.heap.size w w'

theorem bytes_add (a b : ByteArray) : (a ++ b).data.toList = a.data.toList ++ b.data.toList := by
  rw [ByteArray.data_append, Array.toList_append]
set_option maxRecDepth 100000 in
set_option maxHeartbeats 2000000 in
theorem frmake_ok (q : Nat) (p : ByteArray) (w : World) (hq : q < 1048576) (h1 : 1 ≤ p.size) (h2 : p.size ≤ 4096) :
    Calls Tryz.prog 57 #[.int .i64 (q : Int), .string p] w fun e w' => TextP (frBytes q p.data.toList, 0) w e w' := by
  have HB := Lib.hid (show payB (p.size : Int) = true from by unfold payB; simp; omega)
  have he1 : p.toList.isEmpty = false := by rw [ByteArray.toList_eq, List.isEmpty_eq_false_iff]; intro e; have := size_toList p; rw [e] at this; simp at this; omega
  go_enter Tryz.func57, Tryz.ntmps57
  go_wp2_with (go_at_call 108; refine (length_any _ _).mono ?_; rintro e w' ⟨rfl, rfl⟩; rw [HB.out])
  have HF := Lib.hid (IsWr.fresh w)
  obtain ⟨wa, hwa⟩ : ∃ wa, wa = w.alloc (.cells #[.slice none 0 0] 162) := ⟨_, rfl⟩
  have HA := Lib.hid (show Below w.heap.size w wa from by rw [hwa]; exact (Below.refl _ _).alloc (Nat.le_refl _) _)
  rw [← hwa] at HF ⊢
  clear hwa
  refine (wr_u32 p.size w.heap.size _ [] _ (by omega) HF.out (by decide)).mono ?_
  rintro e w1 ⟨rfl, v1, h1⟩
  have H1 := Lib.hid h1
  clear h1
  go_wp2_with fail
  refine (wr_u64 q w.heap.size _ _ _ (by omega) H1.out.is (by simp [be_length])).mono ?_
  rintro e w2 ⟨rfl, v2, h2⟩
  have H2 := Lib.hid (H1.out.trans h2)
  clear h2
  go_wp2_with fail
  refine (wr_bytes w.heap.size v2 _ _ H2.out.is).mono ?_
  rintro e w2' ⟨r, hr, rfl, rfl⟩
  have hrs : r.size = 12 := by rw [size_of_list hr]; simp [be_length]
  have HR := Lib.hid hr
  clear hr
  go_wp2_with fail
  refine (of_any (r ++ p) _ (by rw [ByteArray.size_append]; unfold maxLen; omega)).mono ?_
  rintro e w3 ⟨rfl, hb3⟩
  have H3 := Lib.hid (H2.out.trans (show WrTo w.heap.size w2 w3 v2 v2 _ from ⟨H2.out.is.kept (Fr.pure (S := fun _ => False) hb3) (fun h => h) (fun _ _ h => h), Fr.pure hb3, .inl rfl⟩))
  clear hb3
  go_wp2_with fail
  refine (wr_low (Crc.of (r ++ p).data.toList) w.heap.size v2 _ _ H3.out.is (by simp [be_length])).mono ?_
  rintro e w4 ⟨rfl, v4, h4⟩
  have H4 := Lib.hid (H3.out.trans h4)
  clear h4
  go_wp2_with fail
  refine (wr_raw p w.heap.size v4 _ _ H4.out.is (by simp [be_length, Crc.four_length]; omega)).mono ?_
  rintro e w5 ⟨rfl, v5, h5⟩
  have H5 := Lib.hid (H4.out.trans h5)
  clear h5
  go_wp2_with fail
  refine (wr_bytes w.heap.size v5 _ _ H5.out.is).mono ?_
  rintro e w5' ⟨u, hu, rfl, rfl⟩
  have HU := Lib.hid hu
  clear hu
  go_wp2
  go_ret2
  refine ⟨⟨u, ?_, rfl⟩, ?_⟩
  · rw [HU.out, bytes_add, HR.out]
    unfold frBytes frPre
    rw [size_toList]
    simp
  · exact HA.out.trans (H5.out.fr.below HA.out.size (fun k hk e => e.elim (by omega) (by simp [Value.ownBlock])))
theorem text_of {r r' : List UInt8 × Int} {w w' : World} {e : Ending} (h : TextP r w e w') (hr : r = r') : TextP r' w e w' := hr ▸ h
set_option maxRecDepth 100000 in
set_option maxHeartbeats 1000000 in
theorem frmake_any (q : Int) (p : ByteArray) (w : World) (hq0 : -9223372036854775808 ≤ q) (hq1 : q ≤ 9223372036854775807) (hp : p.size ≤ 9223372036854775807) :
    Calls Tryz.prog 57 #[.int .i64 q, .string p] w fun e w' => TextP (mkF q p.data.toList) w e w' := by
  by_cases h0 : q < 0
  · have HM := Lib.hid (show mkF q p.data.toList = ([], 1) from by unfold mkF; rw [if_pos (.inl h0)])
    go_enter Tryz.func57, Tryz.ntmps57
    go_wp2
    go_ret2
    exact ⟨⟨⟨#[]⟩, by rw [HM.out], by rw [HM.out]; rfl⟩, Below.refl _ _⟩
  by_cases h1 : 1048576 ≤ q
  · have HM := Lib.hid (show mkF q p.data.toList = ([], 1) from by unfold mkF; rw [if_pos (.inr h1)])
    go_enter Tryz.func57, Tryz.ntmps57
    go_wp2
    go_ret2
    exact ⟨⟨⟨#[]⟩, by rw [HM.out], by rw [HM.out]; rfl⟩, Below.refl _ _⟩
  by_cases hz : p.size = 0
  · have hl : p.data.toList = [] := List.eq_nil_of_length_eq_zero (by rw [size_toList]; exact hz)
    have he : p.toList.isEmpty = true := by rw [ByteArray.toList_eq, hl]; rfl
    have HM := Lib.hid (show mkF q p.data.toList = ([], 4) from by unfold mkF; rw [if_neg (by omega), if_pos hl])
    clear hl hz
    go_enter Tryz.func57, Tryz.ntmps57
    go_wp2
    go_ret2
    exact ⟨⟨⟨#[]⟩, by rw [HM.out], by rw [HM.out]; rfl⟩, Below.refl _ _⟩
  have hne : p.data.toList ≠ [] := fun e => hz (by have := size_toList p; rw [e] at this; exact this.symm)
  by_cases hg : 4096 < p.size
  · have HM := Lib.hid (show mkF q p.data.toList = ([], 40) from by unfold mkF; rw [if_neg (by omega), if_neg hne, if_pos (by rw [size_toList]; exact hg)])
    have HB := Lib.hid (show payB (p.size : Int) = false from by unfold payB; simp; omega)
    have he1 : p.toList.isEmpty = false := by rw [ByteArray.toList_eq, List.isEmpty_eq_false_iff]; exact hne
    clear hne hz
    go_enter Tryz.func57, Tryz.ntmps57
    go_wp2_with (go_at_call 108; refine (length_any _ _).mono ?_; rintro e w' ⟨rfl, rfl⟩; rw [HB.out])
    go_ret2
    exact ⟨⟨⟨#[]⟩, by rw [HM.out], by rw [HM.out]; rfl⟩, Below.refl _ _⟩
  · obtain ⟨Q, rfl⟩ := Int.eq_ofNat_of_zero_le (show 0 ≤ q by omega)
    refine (frmake_ok Q p w (by omega) (by omega) (by omega)).mono fun e w' h => text_of h ?_
    unfold mkF
    rw [if_neg (by omega), if_neg hne, if_neg (by rw [size_toList]; omega)]
    rfl
end Go.Proofs.YtcdjckdbcffgdaaGreatDoor

/- The walk of frame.Read. -/
namespace Go.Proofs.YtcdjckdbcffgdaaGreatDoor
open Go.RowKit

theorem below_dn {B : Nat} {w w1 : World} (h : Below B w w1) (k : Nat) : Below B w (w1.drewN k) := ⟨h.os, h.tape, h.output, h.size, h.block⟩
theorem head_short {t : List UInt8} (h : t.length < 16) : ∃ st : RdSt, (((st0.fixed t 4).2.fixed t 8).2.fixed t 4).2 = st ∧ st.e = 8 := by
  refine ⟨_, rfl, ?_⟩
  unfold RdSt.fixed RdSt.take st0
  by_cases h4 : t.length < 4
  · simp [h4]
  · by_cases h12 : t.length - 4 < 8
    · simp [h4, h12]
    · by_cases h16 : t.length - 12 < 4
      · simp [h4, h12, h16]
      · omega
theorem head_ok {t : List UInt8} (h : 16 ≤ t.length) :
    st0.fixed t 4 = (val (t.take 4), ⟨4, 0, 0⟩) ∧ (⟨4, 0, 0⟩ : RdSt).fixed t 8 = (val ((t.drop 4).take 8), ⟨12, 0, 0⟩) ∧ (⟨12, 0, 0⟩ : RdSt).fixed t 4 = (val ((t.drop 12).take 4), ⟨16, 0, 0⟩) := by
  refine ⟨?_, ?_, ?_⟩
  · unfold RdSt.fixed RdSt.take st0; simp [show ¬ t.length < 4 from by omega]
  · unfold RdSt.fixed RdSt.take; simp [show ¬ t.length - 4 < 8 from by omega]
  · unfold RdSt.fixed RdSt.take; simp [show ¬ t.length - 12 < 4 from by omega]
theorem raw_short {t : List UInt8} {n : Nat} (h16 : 16 ≤ t.length) (h : t.length < 16 + n) : (⟨16, 0, 0⟩ : RdSt).take t n = ([], false, ⟨16, 8, 16⟩) := by
  unfold RdSt.take; simp [show t.length - 16 < n from by omega]
theorem raw_ok {t : List UInt8} {n : Nat} (h : 16 + n ≤ t.length) : (⟨16, 0, 0⟩ : RdSt).take t n = ((t.drop 16).take n, true, ⟨16 + n, 0, 0⟩) := by
  unfold RdSt.take; simp [show ¬ t.length - 16 < n from by omega]
/-- The checksum that stands there, as a word. -/
theorem check_of {q : List UInt8} (h : q.length = 4) : ∃ d : BitVec 32, q = Crc.four d ∧ rev32 (BitVec.ofNat 32 (val q)) = d := by
  obtain ⟨d, rfl⟩ := Crc.four_of q h
  refine ⟨d, rfl, ?_⟩
  rw [val_four, BitVec.ofNat_toNat, BitVec.setWidth_eq, rev_rev]

/-- What Read leaves of a frame at a place. -/
def FrPost (r : Int × Nat × List UInt8) (a : Nat) (w : World) (e : Ending) (w' : World) : Prop :=
  Below w.heap.size w w' ∧ ∃ p : ByteArray, p.data.toList = r.2.2 ∧
    e = .returned (.tuple #[.agg #[.int .i64 (r.2.1 : Int), .string p, .int .i64 (if r.1 = 0 then (a : Int) else 0)], .int .i64 (if r.1 = 0 then ((a + 16 + r.2.2.length : Nat) : Int) else 0), .int .i64 r.1])
theorem frpost_bad {c : Int} {a : Nat} {w w' : World} {r : Int × Nat × List UInt8} (hr : r = (c, 0, [])) (hc : c ≠ 0) (hb : Below w.heap.size w w') : FrPost r a w (.returned (.tuple #[.agg #[.int .i64 0, .string ⟨#[]⟩, .int .i64 0], .int .i64 0, .int .i64 c])) w' := by
  subst hr
  exact ⟨hb, ⟨#[]⟩, rfl, by simp [hc]⟩

theorem rd_u32x (w : World) (p : Nat) (s : ByteArray) (st : RdSt) (h : IsRd w p s st) :
    Calls Tryz.prog 204 #[.pointer (some ⟨p, 0, none⟩)] w fun e w' => ∃ (n : Nat) (st' : RdSt), st.fixed s.data.toList 4 = (n, st') ∧ n < 4294967296 ∧ e = .returned (.int .u32 (n : Int)) ∧ IsRd w' p s st' ∧ Fr (fun k => k = p) w w' :=
  (rd_u32 w p s st h).mono fun _ _ ⟨h1, h2, h3⟩ => ⟨_, _, rfl, fixed_lt4 _ _, h1, h2, h3⟩
theorem rd_lowx (w : World) (p : Nat) (s : ByteArray) (st : RdSt) (h : IsRd w p s st) :
    Calls Tryz.prog 205 #[.pointer (some ⟨p, 0, none⟩)] w fun e w' => ∃ (c : BitVec 32) (n : Nat) (st' : RdSt), st.fixed s.data.toList 4 = (n, st') ∧ c = rev32 (BitVec.ofNat 32 n) ∧ e = .returned (.int .u32 (c.toNat : Int)) ∧ IsRd w' p s st' ∧ Fr (fun k => k = p) w w' :=
  (rd_low w p s st h).mono fun _ _ ⟨c, h0, h1, h2, h3⟩ => ⟨c, _, _, rfl, h0, h1, h2, h3⟩

theorem fixed_lt8 (st : RdSt) (s : List UInt8) {n : Nat} {st' : RdSt} (h : st.fixed s 8 = (n, st')) : n < 18446744073709551616 := by
  have h1 : n = val (st.take s 8).1 := by have := congrArg Prod.fst h; exact this.symm
  rw [h1]
  exact Nat.lt_of_lt_of_le (val_lt _) (Nat.pow_le_pow_right (by decide : 0 < 256) (take_len st s 8))

set_option maxRecDepth 100000 in
set_option maxHeartbeats 2000000 in
theorem frread_any (s : ByteArray) (a : Nat) (w : World) (ha : a ≤ s.size) (hs : s.size ≤ 1099511627776) :
    Calls Tryz.prog 170 #[.string s, .int .i64 (a : Int)] w fun e w' => FrPost (frRead (s.data.toList.drop a)) a w e w' := by
  obtain ⟨T, hT⟩ : ∃ T, T = s.data.toList.drop a := ⟨_, rfl⟩
  have hTl : T.length = s.size - a := by rw [hT, List.length_drop, size_toList]
  obtain ⟨t, ht⟩ : ∃ t : ByteArray, t = s.extract a s.size := ⟨_, rfl⟩
  have htl : t.data.toList = T := by rw [ht, cut_list, List.take_of_length_le (by rw [List.length_drop, size_toList]; exact Nat.le_refl _), hT]
  have hts : t.size = s.size - a := by rw [size_of_list htl, hTl]
  rw [← hT]
  have HT := Lib.hid ht
  have HTT := Lib.hid htl
  have HTL := Lib.hid hTl
  have HT0 := Lib.hid hT
  clear htl hTl hT ht
  go_enter Tryz.func170, Tryz.ntmps170
  go_wp2_with fail
  rw [← HT.out]
  refine (rd_new t _ (by omega)).mono ?_
  rintro e w1 ⟨rfl, h1, hb1⟩
  have hs1 := hb1.size
  simp at hs1
  obtain ⟨p, hp⟩ : ∃ p, p = w.heap.size + 1 := ⟨_, rfl⟩
  have hp1 : (w.alloc (.cells #[.int .i64 0, .string ⟨#[]⟩, .int .i64 0] 149)).heap.size = p := by rw [hp]; simp
  rw [hp1] at h1 ⊢
  have hpw : w.heap.size < p := by omega
  have hz : w1.heap[w.heap.size]? = some (.cells #[.int .i64 0, .string ⟨#[]⟩, .int .i64 0] 149 (0, 0)) := by rw [hb1.block _ (by simp)]; exact heap_alloc_new _ _
  have HZ1 := Lib.hid hz
  have H1 := Lib.hid h1
  have B1 := Lib.hid (below_box (hb1.mono (by simp)))
  clear hz h1 hb1 hp hp1
  go_wp2_with fail
  refine (rd_u32x _ p t st0 H1.out).mono ?_
  rintro e w2 ⟨n, sa, hsa, hn, rfl, h2, hf2⟩
  have H2 := Lib.hid h2
  have HZ2 := Lib.hid (hf2.heapAt HZ1.out (by omega))
  have B2 := Lib.hid (B1.out.trans (hf2.below (B := w.heap.size) B1.out.size (fun i hi e => by omega)))
  have HSA := Lib.hid hsa
  clear h2 hf2 hsa
  go_wp2_with fail
  refine (rd_u64x _ p t sa H2.out).mono ?_
  rintro e w3 ⟨q, sb, hsb, rfl, h3, hf3⟩
  have H3 := Lib.hid h3
  have HZ3 := Lib.hid (hf3.heapAt HZ2.out (by omega))
  have B3 := Lib.hid (B2.out.trans (hf3.below (B := w.heap.size) B2.out.size (fun i hi e => by omega)))
  have HSB := Lib.hid hsb
  have hq64 := fixed_lt8 _ _ hsb
  clear h3 hf3 hsb
  go_wp2_with fail
  refine (rd_lowx _ p t sb H3.out).mono ?_
  rintro e w4 ⟨c, cn, sc, hsc, hc, rfl, h4, hf4⟩
  have H4 := Lib.hid h4
  have HZ4 := Lib.hid (hf4.heapAt HZ3.out (by omega))
  have B4 := Lib.hid (B3.out.trans (hf4.below (B := w.heap.size) B3.out.size (fun i hi e => by omega)))
  have HSC := Lib.hid hsc
  have HC := Lib.hid hc
  clear h4 hf4 hsc hc
  go_wp2_with fail
  refine (rd_err _ p t sc H4.out).mono ?_
  rintro e w5 ⟨rfl, nq, rfl⟩
  have B5 := Lib.hid (below_dn B4.out nq)
  have HZ5 := Lib.hid (show (w4.drewN nq).heap[w.heap.size]? = _ from HZ4.out)
  have H5 := Lib.hid (H4.out.drewN nq)
  generalize w4.drewN nq = w5 at *
  have hr0 : w5.cell? ⟨w.heap.size, 0, none⟩ = some (.int .i64 0) := (cell_of_row _ _ _ _ _ _ HZ5.out).trans rfl
  have hr1 : w5.cell? ⟨w.heap.size, 1, none⟩ = some (.string ⟨#[]⟩) := (cell_of_row _ _ _ _ _ _ HZ5.out).trans rfl
  have hr2 : w5.cell? ⟨w.heap.size, 2, none⟩ = some (.int .i64 0) := (cell_of_row _ _ _ _ _ _ HZ5.out).trans rfl
  have hz0 : w5.frozen? ⟨w.heap.size, 0, none⟩ = false := frozen_of_row _ _ _ _ _ HZ5.out
  have hz1 : w5.frozen? ⟨w.heap.size, 1, none⟩ = false := frozen_of_row _ _ _ _ _ HZ5.out
  have hz2 : w5.frozen? ⟨w.heap.size, 2, none⟩ = false := frozen_of_row _ _ _ _ _ HZ5.out
  by_cases h16 : T.length < 16
  · obtain ⟨st, hst, he⟩ := head_short h16
    have hsc8 : sc.e = 8 := by
      rw [← HTT.out] at hst
      have h1 := HSA.out
      have h2 := HSB.out
      have h3 := HSC.out
      rw [h1] at hst
      simp only at hst
      rw [h2] at hst
      simp only at hst
      rw [h3] at hst
      simp only at hst
      rw [hst]; exact he
    have HR := Lib.hid (show frRead T = (8, 0, []) from by unfold frRead; rw [if_pos h16])
    rw [hsc8]
    clear hst he hsc8
    go_wp2
    refine bodyPost_ret (v := .tuple #[.agg #[.int .i64 0, .string ⟨#[]⟩, .int .i64 0], .int .i64 0, .int .i64 8]) (by simp [results, Tryz.results170, go_sem, hr0, hr1, hr2]) rfl (frpost_bad ?_ (by decide) ?_)
    · exact HR.out
    · exact ((B5.out.setCell (p := ⟨w.heap.size, 0, none⟩) (Nat.le_refl _) _).setCell (p := ⟨w.heap.size, 1, none⟩) (Nat.le_refl _) _).setCell (p := ⟨w.heap.size, 2, none⟩) (Nat.le_refl _) _
  have hall := head_ok (Nat.not_lt.1 h16)
  obtain ⟨ha1, ha2, ha3⟩ := hall
  rw [← HTT.out] at ha1 ha2 ha3
  have e1 := HSA.out.symm.trans ha1
  obtain ⟨en, es⟩ := Prod.mk.inj e1
  subst es
  have e2 := HSB.out.symm.trans ha2
  obtain ⟨eq, es⟩ := Prod.mk.inj e2
  subst es
  have e3 := HSC.out.symm.trans ha3
  obtain ⟨ec, es⟩ := Prod.mk.inj e3
  subst es
  rw [HTT.out] at en eq ec
  have EN := Lib.hid en
  have EQ := Lib.hid eq
  have EC := Lib.hid ec
  clear ha1 ha2 ha3 e1 e2 e3 en eq ec
  have hreg : ∀ (bad : 4096 < n ∨ n < 1 ∨ 1048576 ≤ q), frRead T = (4, 0, []) := fun bad => by
    unfold frRead; rw [if_neg h16, if_pos (by rw [← EN.out, ← EQ.out]; exact bad)]
  have HREG := Lib.hid hreg
  clear hreg
  by_cases hn4 : 4096 < n
  · have HB := Lib.hid (HREG.out (.inl hn4))
    go_wp2
    refine bodyPost_ret (v := .tuple #[.agg #[.int .i64 0, .string ⟨#[]⟩, .int .i64 0], .int .i64 0, .int .i64 4]) (by simp [results, Tryz.results170, go_sem, hr0, hr1, hr2]) rfl (frpost_bad ?_ (by decide) ?_)
    · exact HB.out
    · exact ((B5.out.setCell (p := ⟨w.heap.size, 0, none⟩) (Nat.le_refl _) _).setCell (p := ⟨w.heap.size, 1, none⟩) (Nat.le_refl _) _).setCell (p := ⟨w.heap.size, 2, none⟩) (Nat.le_refl _) _
  by_cases hn1 : n < 1
  · have HB := Lib.hid (HREG.out (.inr (.inl hn1)))
    have HPB := Lib.hid (show payB (n : Int) = false from by unfold payB; simp; omega)
    go_wp2_with (go_at_call 108; refine (length_any _ _).mono ?_; rintro e w' ⟨rfl, rfl⟩; rw [HPB.out])
    refine bodyPost_ret (v := .tuple #[.agg #[.int .i64 0, .string ⟨#[]⟩, .int .i64 0], .int .i64 0, .int .i64 4]) (by simp [results, Tryz.results170, go_sem, hr0, hr1, hr2]) rfl (frpost_bad ?_ (by decide) ?_)
    · exact HB.out
    · exact ((B5.out.setCell (p := ⟨w.heap.size, 0, none⟩) (Nat.le_refl _) _).setCell (p := ⟨w.heap.size, 1, none⟩) (Nat.le_refl _) _).setCell (p := ⟨w.heap.size, 2, none⟩) (Nat.le_refl _) _
  have HPB := Lib.hid (show payB (n : Int) = true from by unfold payB; simp; omega)
  by_cases hq2 : 1048576 ≤ q
  · have HB := Lib.hid (HREG.out (.inr (.inr hq2)))
    go_wp2_with (go_at_call 108; refine (length_any _ _).mono ?_; rintro e w' ⟨rfl, rfl⟩; rw [HPB.out])
    refine bodyPost_ret (v := .tuple #[.agg #[.int .i64 0, .string ⟨#[]⟩, .int .i64 0], .int .i64 0, .int .i64 4]) (by simp [results, Tryz.results170, go_sem, hr0, hr1, hr2]) rfl (frpost_bad ?_ (by decide) ?_)
    · exact HB.out
    · exact ((B5.out.setCell (p := ⟨w.heap.size, 0, none⟩) (Nat.le_refl _) _).setCell (p := ⟨w.heap.size, 1, none⟩) (Nat.le_refl _) _).setCell (p := ⟨w.heap.size, 2, none⟩) (Nat.le_refl _) _
  have HOK := Lib.hid (show ¬ (4096 < val (T.take 4) ∨ val (T.take 4) < 1 ∨ 1048576 ≤ val ((T.drop 4).take 8)) from by rw [← EN.out, ← EQ.out]; omega)
  clear HREG
  go_wp2_with (first | (go_at_call 108; refine (length_any _ _).mono ?_; rintro e w' ⟨rfl, rfl⟩; rw [HPB.out]) | fail)
  refine (rd_rawx _ p t ⟨16, 0, 0⟩ H5.out n (by omega)).mono ?_
  rintro e w6 ⟨r, sd, hr, hsd, rfl, h6, hf6⟩
  have H6 := Lib.hid h6
  have HZ6 := Lib.hid (hf6.heapAt HZ5.out (by omega))
  have B6 := Lib.hid (B5.out.trans (hf6.below (B := w.heap.size) B5.out.size (fun i hi e => by omega)))
  have HR := Lib.hid hr
  have HSD := Lib.hid hsd
  clear h6 hf6 hr hsd hr0 hr1 hr2 hz0 hz1 hz2
  go_wp2_with fail
  refine (rd_err _ p t sd H6.out).mono ?_
  rintro e w7 ⟨rfl, nq2, rfl⟩
  have B7 := Lib.hid (below_dn B6.out nq2)
  have HZ7 := Lib.hid (show (w6.drewN nq2).heap[w.heap.size]? = _ from HZ6.out)
  have H7 := Lib.hid (H6.out.drewN nq2)
  generalize w6.drewN nq2 = w7 at *
  have hr0 : w7.cell? ⟨w.heap.size, 0, none⟩ = some (.int .i64 0) := (cell_of_row _ _ _ _ _ _ HZ7.out).trans rfl
  have hr1 : w7.cell? ⟨w.heap.size, 1, none⟩ = some (.string ⟨#[]⟩) := (cell_of_row _ _ _ _ _ _ HZ7.out).trans rfl
  have hr2 : w7.cell? ⟨w.heap.size, 2, none⟩ = some (.int .i64 0) := (cell_of_row _ _ _ _ _ _ HZ7.out).trans rfl
  have hz0 : w7.frozen? ⟨w.heap.size, 0, none⟩ = false := frozen_of_row _ _ _ _ _ HZ7.out
  have hz1 : w7.frozen? ⟨w.heap.size, 1, none⟩ = false := frozen_of_row _ _ _ _ _ HZ7.out
  have hz2 : w7.frozen? ⟨w.heap.size, 2, none⟩ = false := frozen_of_row _ _ _ _ _ HZ7.out
  by_cases hsh : T.length < 16 + n
  · have hst : (⟨16, 8, 16⟩ : RdSt) = sd := by have := HSD.out; rw [HTT.out, raw_short (by omega) hsh] at this; exact this
    subst hst
    have HB := Lib.hid (show frRead T = (8, 0, []) from by unfold frRead; rw [if_neg h16, if_neg HOK.out, if_pos (by rw [← EN.out]; exact hsh)])
    go_wp2
    refine bodyPost_ret (v := .tuple #[.agg #[.int .i64 0, .string ⟨#[]⟩, .int .i64 0], .int .i64 0, .int .i64 8]) (by simp [results, Tryz.results170, go_sem, hr0, hr1, hr2]) rfl (frpost_bad ?_ (by decide) ?_)
    · exact HB.out
    · exact ((B7.out.setCell (p := ⟨w.heap.size, 0, none⟩) (Nat.le_refl _) _).setCell (p := ⟨w.heap.size, 1, none⟩) (Nat.le_refl _) _).setCell (p := ⟨w.heap.size, 2, none⟩) (Nat.le_refl _) _
  have hro := raw_ok (t := T) (n := n) (by omega)
  have hst : (⟨16 + n, 0, 0⟩ : RdSt) = sd := by have := HSD.out; rw [HTT.out, hro] at this; exact this
  subst hst
  have hrl : r.data.toList = (T.drop 16).take n := by have := HR.out; rw [HTT.out, hro] at this; exact this
  have hrs : r.size = n := by rw [size_of_list hrl, List.length_take, List.length_drop]; omega
  have HRL := Lib.hid hrl
  obtain ⟨d, hd, hd2⟩ := check_of (q := (T.drop 12).take 4) (by rw [List.length_take, List.length_drop]; omega)
  have hcd : c = d := by rw [HC.out, EC.out]; exact hd2
  subst hcd
  have HD := Lib.hid hd
  clear hro hrl hd hd2
  obtain ⟨u, hu⟩ : ∃ u : ByteArray, u = s.extract a (a + 12) ++ r := ⟨_, rfl⟩
  have hul : u.data.toList = T.take 12 ++ (T.drop 16).take n := by
    rw [hu, bytes_add, HRL.out, cut_list, ← HT0.out, show a + 12 - a = 12 from by omega]
  have hus : u.size ≤ 9223372036854775807 := by rw [size_of_list hul, List.length_append, List.length_take, List.length_take]; omega
  have HU := Lib.hid hu
  have HUL := Lib.hid hul
  clear hu hul
  have ha12 : a + 12 ≤ s.size := by have := HTL.out; omega
  go_wp2_with fail
  rw [← HU.out]
  refine (of_any u _ (by unfold maxLen; omega)).mono ?_
  rintro e w8 ⟨rfl, hb8⟩
  have B8 := Lib.hid (B7.out.trans (hb8.mono B7.out.size))
  have HZ8 := Lib.hid ((hb8.block _ (lt_of_block HZ7.out)).trans HZ7.out)
  have H8 := Lib.hid (H7.out.kept (Fr.pure (S := fun _ => False) hb8) (fun h => h))
  clear hb8 hr0 hr1 hr2 hz0 hz1 hz2
  have hr0 : w8.cell? ⟨w.heap.size, 0, none⟩ = some (.int .i64 0) := (cell_of_row _ _ _ _ _ _ HZ8.out).trans rfl
  have hr1 : w8.cell? ⟨w.heap.size, 1, none⟩ = some (.string ⟨#[]⟩) := (cell_of_row _ _ _ _ _ _ HZ8.out).trans rfl
  have hr2 : w8.cell? ⟨w.heap.size, 2, none⟩ = some (.int .i64 0) := (cell_of_row _ _ _ _ _ _ HZ8.out).trans rfl
  have hz0 : w8.frozen? ⟨w.heap.size, 0, none⟩ = false := frozen_of_row _ _ _ _ _ HZ8.out
  have hz1 : w8.frozen? ⟨w.heap.size, 1, none⟩ = false := frozen_of_row _ _ _ _ _ HZ8.out
  have hz2 : w8.frozen? ⟨w.heap.size, 2, none⟩ = false := frozen_of_row _ _ _ _ _ HZ8.out
  by_cases hcr : Crc.of u.data.toList = c
  · have HCR := Lib.hid hcr
    rw [hcr]
    have HB := Lib.hid (show frRead T = (0, q, (T.drop 16).take n) from by
      unfold frRead; rw [if_neg h16, if_neg HOK.out, if_neg (by rw [← EN.out]; exact hsh), if_neg (by rw [← EN.out, ← HUL.out, HCR.out, HD.out]; simp), ← EQ.out, ← EN.out])
    clear hcr
    have hq63 : q < 1048576 := by omega
    go_wp2_with (go_at_call 206; refine (rd_at _ p t _ H8.out).mono ?_; rintro e w' ⟨rfl, rfl⟩)
    refine bodyPost_ret (v := .tuple #[.agg #[.int .i64 (q : Int), .string r, .int .i64 (a : Int)], .int .i64 (((a + (16 + n) : Nat) : Int)), .int .i64 0]) (by simp [results, Tryz.results170, go_sem, hr0, hr1, hr2]) rfl ⟨?_, r, ?_, ?_⟩
    · exact ((B8.out.setCell (p := ⟨w.heap.size, 0, none⟩) (Nat.le_refl _) _).setCell (p := ⟨w.heap.size, 1, none⟩) (Nat.le_refl _) _).setCell (p := ⟨w.heap.size, 2, none⟩) (Nat.le_refl _) _
    · rw [HB.out]; exact HRL.out
    · rw [HB.out, if_pos rfl, if_pos rfl, show ((T.drop 16).take n).length = n from by rw [List.length_take, List.length_drop]; omega, show a + (16 + n) = a + 16 + n from by omega]
  · have hne : ((Crc.of u.data.toList).toNat : Int) ≠ (c.toNat : Int) := fun e => hcr (BitVec.eq_of_toNat_eq (by omega))
    have hneb : (((Crc.of u.data.toList).toNat : Int) != (c.toNat : Int)) = true := by simpa using hne
    have heqb : (((Crc.of u.data.toList).toNat : Int) == (c.toNat : Int)) = false := by simpa using hne
    have HB := Lib.hid (show frRead T = (42, 0, []) from by
      unfold frRead; rw [if_neg h16, if_neg HOK.out, if_neg (by rw [← EN.out]; exact hsh), if_pos (by rw [← EN.out, ← HUL.out, HD.out]; exact fun e => hcr (four_inj e))])
    clear hcr hne
    go_wp2
    refine bodyPost_ret (v := .tuple #[.agg #[.int .i64 0, .string ⟨#[]⟩, .int .i64 0], .int .i64 0, .int .i64 42]) (by simp [results, Tryz.results170, go_sem, hr0, hr1, hr2]) rfl (frpost_bad ?_ (by decide) ?_)
    · exact HB.out
    · exact ((B8.out.setCell (p := ⟨w.heap.size, 0, none⟩) (Nat.le_refl _) _).setCell (p := ⟨w.heap.size, 1, none⟩) (Nat.le_refl _) _).setCell (p := ⟨w.heap.size, 2, none⟩) (Nat.le_refl _) _
end Go.Proofs.YtcdjckdbcffgdaaGreatDoor
