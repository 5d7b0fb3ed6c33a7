/- The walks of wire.Reader's methods: what a reader reads, as plain functions of what it has read so far. -/
import Derived.Test.YtcdjckdbcffgdaaGreatDoorChecked
import Derived.Test.YtcdjckdbcffgdaaGreatDoorMAa
import Derived.Deep.QuietTactic
import Derived.BigQuiet
namespace Go.Proofs.YtcdjckdbcffgdaaGreatDoor
open Go.RowKit

/-- A reader's state: how many bytes were taken, the error, and its place. -/
structure RdSt where
  at_ : Nat
  e : Int
  tow : Int

def RdSt.take (st : RdSt) (s : List UInt8) (n : Nat) : List UInt8 × Bool × RdSt :=
  if st.e ≠ 0 then ([], false, st)
  else if s.length - st.at_ < n then ([], false, ⟨st.at_, 8, st.at_⟩)
  else ((s.drop st.at_).take n, true, ⟨st.at_ + n, st.e, st.tow⟩)

/-- A number of bytes, the highest first. -/
def val (l : List UInt8) : Nat := l.foldl (fun n b => n * 256 + b.toNat) 0

def RdSt.cells (st : RdSt) (s : ByteArray) : Array Value := #[.string s, .int .i64 (st.at_ : Int), .int .i64 st.e, .int .i64 st.tow]
/-- A reader of s lies in block p. -/
def IsRd (w : World) (p : Nat) (s : ByteArray) (st : RdSt) : Prop := w.heap[p]? = some (.cells (st.cells s) 217 (0, 0)) ∧ st.at_ ≤ s.size ∧ s.size ≤ 1099511627776

theorem IsRd.lt {w : World} {p : Nat} {s : ByteArray} {st : RdSt} (h : IsRd w p s st) : p < w.heap.size := lt_of_block h.1
theorem IsRd.cs {w : World} {p : Nat} {s : ByteArray} {st : RdSt} (h : IsRd w p s st) :
    w.cell? ⟨p, 0, none⟩ = some (.string s) ∧ w.cell? ⟨p, 1, none⟩ = some (.int .i64 (st.at_ : Int)) ∧ w.cell? ⟨p, 2, none⟩ = some (.int .i64 st.e) ∧ w.cell? ⟨p, 3, none⟩ = some (.int .i64 st.tow) := by
  refine ⟨?_, ?_, ?_, ?_⟩ <;> rw [cell_of_row w p _ _ _ _ h.1] <;> rfl
theorem IsRd.fz {w : World} {p : Nat} {s : ByteArray} {st : RdSt} (h : IsRd w p s st) (j : Nat) : w.frozen? ⟨p, j, none⟩ = false := frozen_of_row w p j _ _ h.1
theorem IsRd.kept {S : Nat → Prop} {w w' : World} {p : Nat} {s : ByteArray} {st : RdSt} (h : IsRd w p s st) (hf : Fr S w w') (hp : ¬ S p) : IsRd w' p s st := ⟨hf.heapAt h.1 hp, h.2⟩
theorem IsRd.drewN {w : World} {p : Nat} {s : ByteArray} {st : RdSt} (h : IsRd w p s st) (n : Nat) : IsRd (w.drewN n) p s st := h

set_option maxHeartbeats 400000 in
theorem rd_new (s : ByteArray) (w : World) (hs : s.size ≤ 1099511627776) :
    Calls Tryz.prog 133 #[.string s] w fun e w' => e = .returned (.pointer (some ⟨w.heap.size, 0, none⟩)) ∧ IsRd w' w.heap.size s ⟨0, 0, 0⟩ ∧ Below w.heap.size w w' := by
  go_enter Tryz.func133, Tryz.ntmps133
  go_wp2
  go_ret
  exact ⟨rfl, ⟨heap_alloc_new _ _, Nat.zero_le _, hs⟩, (Below.refl _ _).alloc (Nat.le_refl _) _⟩

set_option maxHeartbeats 400000 in
theorem rd_good (w : World) (p : Nat) (s : ByteArray) (st : RdSt) (h : IsRd w p s st) (b : Bool) (hb : (st.e == 0) = b) :
    Calls Tryz.prog 228 #[.pointer (some ⟨p, 0, none⟩)] w fun e w' => e = .returned (.bool b) ∧ w = w' := by
  obtain ⟨c0, c1, c2, c3⟩ := h.cs
  clear h
  go_enter Tryz.func228, Tryz.ntmps228
  go_wp2
  go_ret
  exact ⟨rfl, rfl⟩

set_option maxHeartbeats 400000 in
theorem rd_wrong (w : World) (p : Nat) (s : ByteArray) (st : RdSt) (h : IsRd w p s st) (e : Int) (a : Nat) (ha2 : a ≤ s.size) :
    Calls Tryz.prog 229 #[.pointer (some ⟨p, 0, none⟩), .int .i64 e, .int .i64 (a : Int)] w fun e' w' => e' = .returned (.tuple #[]) ∧ IsRd w' p s ⟨a, e, a⟩ ∧ Fr (fun k => k = p) w w' := by
  obtain ⟨c0, c1, c2, c3⟩ := h.cs
  have f1 := h.fz 1
  have f2 := h.fz 2
  have f3 := h.fz 3
  have H := Lib.hid h
  clear h
  go_enter Tryz.func229, Tryz.ntmps229
  go_wp2
  go_end0
  refine ⟨rfl, ⟨?_, ha2, H.out.2.2⟩, ?_⟩
  · rw [heap_setCell_same _ _ _ _ _ _ (heap_setCell_same _ _ _ _ _ _ (heap_setCell_same _ _ _ _ _ _ H.out.1))]
    simp [RdSt.cells]
  · exact (((Fr.refl (fun k => k = p) w).setCell ⟨p, 2, none⟩ (fun _ => rfl) _).setCell ⟨p, 3, none⟩ (fun _ => rfl) _).setCell ⟨p, 1, none⟩ (fun _ => rfl) _

set_option maxHeartbeats 1000000 in
theorem rd_take (w : World) (p : Nat) (s : ByteArray) (st : RdSt) (h : IsRd w p s st) (n : Nat) (hn : n ≤ 1099511627776) :
    Calls Tryz.prog 187 #[.pointer (some ⟨p, 0, none⟩), .int .i64 (n : Int)] w fun e w' => ∃ r : ByteArray, r.data.toList = (st.take s.data.toList n).1 ∧ e = .returned (.tuple #[.string r, .bool (st.take s.data.toList n).2.1]) ∧ IsRd w' p s (st.take s.data.toList n).2.2 ∧ Fr (fun k => k = p) w w' := by
  obtain ⟨c0, c1, c2, c3⟩ := h.cs
  have f1 := h.fz 1
  have hat := h.2.1
  have hss := h.2.2
  by_cases he : st.e = 0
  · by_cases hlt : s.size - st.at_ < n
    · have HT := Lib.hid (show st.take s.data.toList n = ([], false, ⟨st.at_, 8, st.at_⟩) from by
        unfold RdSt.take; rw [size_toList]; rw [if_neg (fun hx => hx he), if_pos hlt])
      rw [HT.out]
      have H := Lib.hid h
      clear h
      have hlt' : (s.size : Int) - (st.at_ : Int) < (n : Int) := by omega
      rw [he] at c2
      have HE := Lib.hid he
      clear he
      go_enter Tryz.func187, Tryz.ntmps187
      go_wp2_with fail
      refine (rd_good _ p s st H.out true (by rw [HE.out]; rfl)).mono ?_
      rintro e w1 ⟨rfl, rfl⟩
      go_wp2_with fail
      go_quiet (fail)
      go_wp2_with fail
      refine (rd_wrong _ p s st (H.out.drewN _) 8 st.at_ hat).mono ?_
      rintro e w1 ⟨rfl, h1, hf1⟩
      have H1 := Lib.hid h1
      clear h1
      go_wp2
      go_ret2
      exact ⟨_, rfl, rfl, H1.out, (Fr.refl _ w).drewN _ |>.trans hf1⟩
    · have HT := Lib.hid (show st.take s.data.toList n = ((s.data.toList.drop st.at_).take n, true, ⟨st.at_ + n, st.e, st.tow⟩) from by
        unfold RdSt.take; rw [size_toList]; rw [if_neg (fun hx => hx he), if_neg hlt])
      rw [HT.out]
      have H := Lib.hid h
      clear h
      have hlt' : (n : Int) ≤ (s.size : Int) - (st.at_ : Int) := by omega
      rw [he] at c2
      have HE := Lib.hid he
      clear he
      go_enter Tryz.func187, Tryz.ntmps187
      go_wp2_with fail
      refine (rd_good _ p s st H.out true (by rw [HE.out]; rfl)).mono ?_
      rintro e w1 ⟨rfl, rfl⟩
      go_wp2_with fail
      go_quiet (fail)
      go_wp2_with fail
      go_quiet (fail)
      go_wp2
      go_ret2
      refine ⟨_, by rw [cut_list, Nat.add_sub_cancel_left], rfl, ⟨?_, by show st.at_ + n ≤ s.size; omega, hss⟩, ((Fr.refl (fun k => k = p) w).drewN _).setCell ⟨p, 1, none⟩ (fun _ => rfl) _⟩
      rw [heap_setCell_same _ _ _ _ _ _ (H.out.drewN _).1]
      simp [RdSt.cells, HE.out]
  · have HT := Lib.hid (show st.take s.data.toList n = ([], false, st) from by
      unfold RdSt.take; rw [if_pos he])
    rw [HT.out]
    have H := Lib.hid h
    have HE := Lib.hid he
    clear h he
    go_enter Tryz.func187, Tryz.ntmps187
    go_wp2_with fail
    refine (rd_good _ p s st H.out false (by simpa using HE.out)).mono ?_
    rintro e w1 ⟨rfl, rfl⟩
    go_wp2
    go_ret2
    exact ⟨_, rfl, rfl, H.out, Fr.refl _ _⟩

/-- A number of k bytes. -/
def RdSt.fixed (st : RdSt) (s : List UInt8) (k : Nat) : Nat × RdSt := (val (st.take s k).1, (st.take s k).2.2)
theorem val_snoc (l : List UInt8) (b : UInt8) : val (l ++ [b]) = val l * 256 + b.toNat := by simp [val]
theorem val_lt_from (l : List UInt8) : ∀ a : Nat, l.foldl (fun n b => n * 256 + b.toNat) a < (a + 1) * 256 ^ l.length := by
  induction l with
  | nil => intro a; simp
  | cons b l ih =>
    intro a
    have h := ih (a * 256 + b.toNat)
    have hb := b.toNat_lt
    rw [List.foldl_cons, List.length_cons, Nat.pow_succ, Nat.mul_comm (256 ^ l.length), ← Nat.mul_assoc]
    exact Nat.lt_of_lt_of_le h (Nat.mul_le_mul_right _ (by omega))
theorem val_lt (l : List UInt8) : val l < 256 ^ l.length := by
  have h := val_lt_from l 0
  rw [Nat.zero_add, Nat.one_mul] at h
  exact h
theorem val_lt7 {l : List UInt8} (h : l.length ≤ 7) : val l < 72057594037927936 := by
  have h1 := val_lt l
  have h2 : 256 ^ l.length ≤ 256 ^ 7 := Nat.pow_le_pow_right (by decide) h
  exact Nat.lt_of_lt_of_le h1 h2
theorem take_len (st : RdSt) (s : List UInt8) (n : Nat) : (st.take s n).1.length ≤ n := by
  unfold RdSt.take
  split
  · simp
  · split
    · simp
    · simp; omega

set_option maxHeartbeats 1000000 in
theorem rd_raw (w : World) (p : Nat) (s : ByteArray) (st : RdSt) (h : IsRd w p s st) (n : Nat) (hn : n ≤ 1099511627776) :
    Calls Tryz.prog 150 #[.pointer (some ⟨p, 0, none⟩), .int .i64 (n : Int)] w fun e w' => ∃ r : ByteArray, r.data.toList = (st.take s.data.toList n).1 ∧ e = .returned (.string r) ∧ IsRd w' p s (st.take s.data.toList n).2.2 ∧ Fr (fun k => k = p) w w' := by
  have H := Lib.hid h
  clear h
  go_enter Tryz.func150, Tryz.ntmps150
  go_wp2_with fail
  refine (rd_take _ p s st H.out n hn).mono ?_
  rintro e w1 ⟨r, hr, rfl, h1, hf1⟩
  have HR := Lib.hid hr
  have H1 := Lib.hid h1
  clear hr h1
  go_wp2
  go_ret
  exact ⟨r, HR.out, rfl, H1.out, hf1⟩

theorem or_byte (n : Nat) (b : UInt8) (hn : n < 72057594037927936) : bits .or .u64 ((n : Int) * 256) (IntKind.u64.wrap (b.toNat : Int)) = ((n * 256 + b.toNat : Nat) : Int) := by
  have hb := b.toNat_lt
  rw [show IntKind.u64.wrap (b.toNat : Int) = (b.toNat : Int) from by rw [IntKind.wrap_u64]; omega]
  rw [bits_join .u64 64 (by decide) (fun x h0 h1 => by rw [IntKind.wrap_u64]; omega) 8 ((n : Int) * 256) (b.toNat : Int) (by omega) (by omega) (by omega) (by omega) (by omega) (by omega)]
  omega

theorem val_take_succ (r : ByteArray) (k : Nat) (h : k < r.size) : val (r.data.toList.take (k + 1)) = val (r.data.toList.take k) * 256 + r[k].toNat := by
  rw [List.take_succ_eq_append_getElem (by simpa using h), val_snoc]; rfl

set_option maxHeartbeats 1000000 in
theorem rd_fixed64 (w : World) (p : Nat) (s : ByteArray) (st : RdSt) (h : IsRd w p s st) (k : Nat) (hk : k ≤ 8) :
    Calls Tryz.prog 168 #[.pointer (some ⟨p, 0, none⟩), .int .i64 (k : Int)] w fun e w' => e = .returned (.int .u64 ((st.fixed s.data.toList k).1 : Int)) ∧ IsRd w' p s (st.fixed s.data.toList k).2 ∧ Fr (fun k => k = p) w w' := by
  unfold RdSt.fixed
  have H := Lib.hid h
  clear h
  go_enter Tryz.func168, Tryz.ntmps168
  go_wp2_with fail
  refine (rd_take _ p s st H.out k (by omega)).mono ?_
  rintro e w1 ⟨r, hr, rfl, h1, hf1⟩
  have hrs : r.size ≤ 8 := by rw [size_of_list hr]; exact Nat.le_trans (take_len st s.data.toList k) hk
  have HR := Lib.hid hr
  have H1 := Lib.hid h1
  clear hr h1
  go_wp2
  go_loop [7, 17] (fun v i => ∃ (j n : Nat), j ≤ r.size ∧ i = .int .i64 j ∧ v = .int .u64 (n : Int) ∧ n = val (r.data.toList.take j)) (fun _ i => r.size - (intOf i).toNat)
  case atStart => exact ⟨0, 0, by omega, rfl, rfl, rfl⟩
  case round =>
    obtain ⟨j, n, hj, rfl, rfl, hn⟩ := hrel
    by_cases hlt : j < r.size
    · have hb7 : n < 72057594037927936 := by rw [hn]; exact val_lt7 (by rw [List.length_take]; omega)
      have HO := Lib.hid (or_byte n r[j] hb7)
      have HN := Lib.hid hn
      clear hn
      go_wp2
      go_round
      case rel => exact ⟨j + 1, n * 256 + r[j].toNat, by omega, by go_num, by rw [HO.out], by rw [val_take_succ r j hlt, HN.out]⟩
      case measure => simp [intOf]; omega
    · have HN := Lib.hid hn
      clear hn
      go_wp2
      go_ret
      exact ⟨by rw [← HR.out, HN.out, List.take_of_length_le (by rw [size_toList]; omega)]; rfl, H1.out, hf1⟩

set_option maxHeartbeats 400000 in
theorem rd_u64 (w : World) (p : Nat) (s : ByteArray) (st : RdSt) (h : IsRd w p s st) :
    Calls Tryz.prog 134 #[.pointer (some ⟨p, 0, none⟩)] w fun e w' => e = .returned (.int .u64 ((st.fixed s.data.toList 8).1 : Int)) ∧ IsRd w' p s (st.fixed s.data.toList 8).2 ∧ Fr (fun k => k = p) w w' := by
  have H := Lib.hid h
  clear h
  go_enter Tryz.func134, Tryz.ntmps134
  go_wp2_with fail
  refine (rd_fixed64 _ p s st H.out 8 (by omega)).mono ?_
  rintro e w1 ⟨rfl, h1, hf1⟩
  have H1 := Lib.hid h1
  clear h1
  go_wp2
  go_ret
  exact ⟨rfl, H1.out, hf1⟩

theorem val_lt2 {l : List UInt8} (h : l.length ≤ 2) : val l < 65536 := by
  have h1 := val_lt l
  have h2 : 256 ^ l.length ≤ 256 ^ 2 := Nat.pow_le_pow_right (by decide) h
  exact Nat.lt_of_lt_of_le h1 h2

set_option maxHeartbeats 1000000 in
theorem rd_fixed16 (w : World) (p : Nat) (s : ByteArray) (st : RdSt) (h : IsRd w p s st) :
    Calls Tryz.prog 188 #[.pointer (some ⟨p, 0, none⟩), .int .i64 2] w fun e w' => e = .returned (.int .u16 ((st.fixed s.data.toList 2).1 : Int)) ∧ IsRd w' p s (st.fixed s.data.toList 2).2 ∧ Fr (fun k => k = p) w w' := by
  unfold RdSt.fixed
  have H := Lib.hid h
  clear h
  go_enter Tryz.func188, Tryz.ntmps188
  go_wp2_with fail
  refine (rd_take _ p s st H.out 2 (by omega)).mono ?_
  rintro e w1 ⟨r, hr, rfl, h1, hf1⟩
  have hrs : r.size ≤ 2 := by rw [size_of_list hr]; exact take_len st s.data.toList 2
  have HR := Lib.hid hr
  have H1 := Lib.hid h1
  clear hr h1
  go_wp2
  go_loop [7, 17] (fun v i => ∃ (j n : Nat), j ≤ r.size ∧ i = .int .i64 j ∧ v = .int .u64 (n : Int) ∧ n = val (r.data.toList.take j)) (fun _ i => r.size - (intOf i).toNat)
  case atStart => exact ⟨0, 0, by omega, rfl, rfl, rfl⟩
  case round =>
    obtain ⟨j, n, hj, rfl, rfl, hn⟩ := hrel
    by_cases hlt : j < r.size
    · have hb7 : n < 72057594037927936 := by rw [hn]; exact val_lt7 (by rw [List.length_take]; omega)
      have HO := Lib.hid (or_byte n r[j] hb7)
      have HN := Lib.hid hn
      clear hn
      go_wp2
      go_round
      case rel => exact ⟨j + 1, n * 256 + r[j].toNat, by omega, by go_num, by rw [HO.out], by rw [val_take_succ r j hlt, HN.out]⟩
      case measure => simp [intOf]; omega
    · have hb2 : n < 65536 := by rw [hn]; exact val_lt2 (by rw [List.length_take, size_toList]; omega)
      have HN := Lib.hid hn
      clear hn
      go_wp2
      go_ret
      exact ⟨by rw [← HR.out, HN.out, List.take_of_length_le (by rw [size_toList]; omega)]; rfl, H1.out, hf1⟩

set_option maxHeartbeats 400000 in
theorem rd_u16 (w : World) (p : Nat) (s : ByteArray) (st : RdSt) (h : IsRd w p s st) :
    Calls Tryz.prog 151 #[.pointer (some ⟨p, 0, none⟩)] w fun e w' => e = .returned (.int .u16 ((st.fixed s.data.toList 2).1 : Int)) ∧ IsRd w' p s (st.fixed s.data.toList 2).2 ∧ Fr (fun k => k = p) w w' := by
  have H := Lib.hid h
  clear h
  go_enter Tryz.func151, Tryz.ntmps151
  go_wp2_with fail
  refine (rd_fixed16 _ p s st H.out).mono ?_
  rintro e w1 ⟨rfl, h1, hf1⟩
  have H1 := Lib.hid h1
  clear h1
  go_wp2
  go_ret
  exact ⟨rfl, H1.out, hf1⟩

set_option maxHeartbeats 400000 in
theorem rd_err (w : World) (p : Nat) (s : ByteArray) (st : RdSt) (h : IsRd w p s st) :
    Calls Tryz.prog 189 #[.pointer (some ⟨p, 0, none⟩)] w fun e w' => e = .returned (.tuple #[.int .i64 st.e, .int .i64 st.tow]) ∧ ∃ n, w' = w.drewN n := by
  obtain ⟨c0, c1, c2, c3⟩ := h.cs
  clear h
  go_enter Tryz.func189, Tryz.ntmps189
  go_wp2_with fail
  go_quiet (fail)
  go_wp2
  go_ret2
  exact ⟨rfl, _, rfl⟩

set_option maxHeartbeats 400000 in
theorem rd_left (w : World) (p : Nat) (s : ByteArray) (st : RdSt) (h : IsRd w p s st) :
    Calls Tryz.prog 190 #[.pointer (some ⟨p, 0, none⟩)] w fun e w' => e = .returned (.int .i64 ((s.size : Int) - (st.at_ : Int))) ∧ ∃ n, w' = w.drewN n := by
  obtain ⟨c0, c1, c2, c3⟩ := h.cs
  have h1 := h.2.1
  have h2 := h.2.2
  clear h
  go_enter Tryz.func190, Tryz.ntmps190
  go_wp2_with fail
  go_quiet (fail)
  go_wp2
  go_ret
  exact ⟨rfl, _, rfl⟩

/-- What End tells. -/
def RdSt.ended (st : RdSt) (n : Nat) : Int := if st.e = 0 ∧ st.at_ < n then 4 else st.e

set_option maxHeartbeats 400000 in
theorem rd_end (w : World) (p : Nat) (s : ByteArray) (st : RdSt) (h : IsRd w p s st) :
    Calls Tryz.prog 152 #[.pointer (some ⟨p, 0, none⟩)] w fun e w' => e = .returned (.int .i64 (st.ended s.size)) ∧ ∃ n, w' = w.drewN n := by
  by_cases he : st.e = 0
  · by_cases hlt : st.at_ < s.size
    · rw [show st.ended s.size = 4 from by unfold RdSt.ended; rw [if_pos ⟨he, hlt⟩]]
      have H := Lib.hid h
      have HE := Lib.hid he
      clear h he
      go_enter Tryz.func152, Tryz.ntmps152
      go_wp2_with fail
      refine (rd_err _ p s st H.out).mono ?_
      rintro e w1 ⟨rfl, n1, rfl⟩
      rw [HE.out]
      go_wp2_with fail
      refine (rd_left _ p s st (H.out.drewN _)).mono ?_
      rintro e w1 ⟨rfl, n2, rfl⟩
      go_wp2
      go_ret
      exact ⟨rfl, _, rfl⟩
    · rw [show st.ended s.size = 0 from by unfold RdSt.ended; rw [if_neg (fun h => hlt h.2), he]]
      have H := Lib.hid h
      have HE := Lib.hid he
      clear h he
      go_enter Tryz.func152, Tryz.ntmps152
      go_wp2_with fail
      refine (rd_err _ p s st H.out).mono ?_
      rintro e w1 ⟨rfl, n1, rfl⟩
      rw [HE.out]
      go_wp2_with fail
      refine (rd_left _ p s st (H.out.drewN _)).mono ?_
      rintro e w1 ⟨rfl, n2, rfl⟩
      go_wp2
      go_ret
      exact ⟨rfl, _, rfl⟩
  · rw [show st.ended s.size = st.e from by unfold RdSt.ended; rw [if_neg (fun h => he h.1)]]
    have H := Lib.hid h
    have hE : (st.e == 0) = false := by simpa using he
    clear h he
    go_enter Tryz.func152, Tryz.ntmps152
    go_wp2_with fail
    refine (rd_err _ p s st H.out).mono ?_
    rintro e w1 ⟨rfl, n1, rfl⟩
    go_wp2
    go_ret
    exact ⟨rfl, _, rfl⟩

end Go.Proofs.YtcdjckdbcffgdaaGreatDoor
