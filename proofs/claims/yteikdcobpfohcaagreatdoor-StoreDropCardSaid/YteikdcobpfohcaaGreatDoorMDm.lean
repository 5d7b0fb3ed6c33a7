/- The walks of wire.Reader's methods: what a reader reads, as plain functions of what it has read so far. -/
import Derived.Test.YteikdcobpfohcaaGreatDoorChecked
import Derived.Test.YteikdcobpfohcaaGreatDoorMAa
import Derived.Deep.QuietTactic
import Derived.BigQuiet
namespace Go.Proofs.YteikdcobpfohcaaGreatDoor
open Go.RowKit

/-- A reader's state: how many bytes were taken, the error, and its place. -/
structure RdSt where
  at_ : Nat
  e : Int
  tow : Int

def RdSt.take (st : RdSt) (s : List UInt8) (n : Nat) : List UInt8 × Bool × RdSt :=
  if st.e ≠ 0 then ([], false, st)
  else if s.length - st.at_ < n then ([], false, ⟨st.at_, 8, st.at_⟩)
  else ((s.drop st.at_).take n, true, ⟨st.at_ + n, st.e, st.tow⟩)

/-- A number of bytes, the highest first. -/
def val (l : List UInt8) : Nat := l.foldl (fun n b => n * 256 + b.toNat) 0

def RdSt.cells (st : RdSt) (s : ByteArray) : Array Value := #[.string s, .int .i64 (st.at_ : Int), .int .i64 st.e, .int .i64 st.tow]
/-- A reader of s lies in block p. -/
def IsRd (w : World) (p : Nat) (s : ByteArray) (st : RdSt) : Prop := w.heap[p]? = some (.cells (st.cells s) 151 (0, 0)) ∧ st.at_ ≤ s.size ∧ s.size ≤ 1099511627776

theorem IsRd.lt {w : World} {p : Nat} {s : ByteArray} {st : RdSt} (h : IsRd w p s st) : p < w.heap.size := lt_of_block h.1
theorem IsRd.cs {w : World} {p : Nat} {s : ByteArray} {st : RdSt} (h : IsRd w p s st) :
    w.cell? ⟨p, 0, none⟩ = some (.string s) ∧ w.cell? ⟨p, 1, none⟩ = some (.int .i64 (st.at_ : Int)) ∧ w.cell? ⟨p, 2, none⟩ = some (.int .i64 st.e) ∧ w.cell? ⟨p, 3, none⟩ = some (.int .i64 st.tow) := by
  refine ⟨?_, ?_, ?_, ?_⟩ <;> rw [cell_of_row w p _ _ _ _ h.1] <;> rfl
theorem IsRd.fz {w : World} {p : Nat} {s : ByteArray} {st : RdSt} (h : IsRd w p s st) (j : Nat) : w.frozen? ⟨p, j, none⟩ = false := frozen_of_row w p j _ _ h.1
theorem IsRd.kept {S : Nat → Prop} {w w' : World} {p : Nat} {s : ByteArray} {st : RdSt} (h : IsRd w p s st) (hf : Fr S w w') (hp : ¬ S p) : IsRd w' p s st := ⟨hf.heapAt h.1 hp, h.2⟩
theorem IsRd.drewN {w : World} {p : Nat} {s : ByteArray} {st : RdSt} (h : IsRd w p s st) (n : Nat) : IsRd (w.drewN n) p s st := h

set_option maxHeartbeats 400000 in
theorem rd_new (s : ByteArray) (w : World) (hs : s.size ≤ 1099511627776) :
    Calls Tryz.prog 54 #[.string s] w fun e w' => e = .returned (.pointer (some ⟨w.heap.size, 0, none⟩)) ∧ IsRd w' w.heap.size s ⟨0, 0, 0⟩ ∧ Below w.heap.size w w' := by
  go_enter Tryz.func54, Tryz.ntmps54
  go_wp2
  go_ret
  exact ⟨rfl, ⟨heap_alloc_new _ _, Nat.zero_le _, hs⟩, (Below.refl _ _).alloc (Nat.le_refl _) _⟩

set_option maxHeartbeats 400000 in
theorem rd_good (w : World) (p : Nat) (s : ByteArray) (st : RdSt) (h : IsRd w p s st) (b : Bool) (hb : (st.e == 0) = b) :
    Calls Tryz.prog 129 #[.pointer (some ⟨p, 0, none⟩)] w fun e w' => e = .returned (.bool b) ∧ w = w' := by
  obtain ⟨c0, c1, c2, c3⟩ := h.cs
  clear h
  go_enter Tryz.func129, Tryz.ntmps129
  go_wp2
  go_ret
  exact ⟨rfl, rfl⟩

set_option maxHeartbeats 400000 in
theorem rd_wrong (w : World) (p : Nat) (s : ByteArray) (st : RdSt) (h : IsRd w p s st) (e : Int) (a : Nat) (ha2 : a ≤ s.size) :
    Calls Tryz.prog 130 #[.pointer (some ⟨p, 0, none⟩), .int .i64 e, .int .i64 (a : Int)] w fun e' w' => e' = .returned (.tuple #[]) ∧ IsRd w' p s ⟨a, e, a⟩ ∧ Fr (fun k => k = p) w w' := by
  obtain ⟨c0, c1, c2, c3⟩ := h.cs
  have f1 := h.fz 1
  have f2 := h.fz 2
  have f3 := h.fz 3
  have H := Lib.hid h
  clear h
  go_enter Tryz.func130, Tryz.ntmps130
  go_wp2
  go_end0
  refine ⟨rfl, ⟨?_, ha2, H.out.2.2⟩, ?_⟩
  · rw [heap_setCell_same _ _ _ _ _ _ (heap_setCell_same _ _ _ _ _ _ (heap_setCell_same _ _ _ _ _ _ H.out.1))]
    simp [RdSt.cells]
  · exact (((Fr.refl (fun k => k = p) w).setCell ⟨p, 2, none⟩ (fun _ => rfl) _).setCell ⟨p, 3, none⟩ (fun _ => rfl) _).setCell ⟨p, 1, none⟩ (fun _ => rfl) _

set_option maxHeartbeats 1000000 in
theorem rd_take (w : World) (p : Nat) (s : ByteArray) (st : RdSt) (h : IsRd w p s st) (n : Nat) (hn : n ≤ 1099511627776) :
    Calls Tryz.prog 91 #[.pointer (some ⟨p, 0, none⟩), .int .i64 (n : Int)] w fun e w' => ∃ r : ByteArray, r.data.toList = (st.take s.data.toList n).1 ∧ e = .returned (.tuple #[.string r, .bool (st.take s.data.toList n).2.1]) ∧ IsRd w' p s (st.take s.data.toList n).2.2 ∧ Fr (fun k => k = p) w w' := by
  obtain ⟨c0, c1, c2, c3⟩ := h.cs
  have f1 := h.fz 1
  have hat := h.2.1
  have hss := h.2.2
  by_cases he : st.e = 0
  · by_cases hlt : s.size - st.at_ < n
    · have HT := Lib.hid (show st.take s.data.toList n = ([], false, ⟨st.at_, 8, st.at_⟩) from by
        unfold RdSt.take; rw [size_toList]; rw [if_neg (fun hx => hx he), if_pos hlt])
      rw [HT.out]
      have H := Lib.hid h
      clear h
      have hlt' : (s.size : Int) - (st.at_ : Int) < (n : Int) := by omega
      rw [he] at c2
      have HE := Lib.hid he
      clear he
      go_enter Tryz.func91, Tryz.ntmps91
      go_wp2_with fail
      refine (rd_good _ p s st H.out true (by rw [HE.out]; rfl)).mono ?_
      rintro e w1 ⟨rfl, rfl⟩
      go_wp2_with fail
      go_quiet (fail)
      go_wp2_with fail
      refine (rd_wrong _ p s st (H.out.drewN _) 8 st.at_ hat).mono ?_
      rintro e w1 ⟨rfl, h1, hf1⟩
      have H1 := Lib.hid h1
      clear h1
      go_wp2
      go_ret2
      exact ⟨_, rfl, rfl, H1.out, (Fr.refl _ w).drewN _ |>.trans hf1⟩
    · have HT := Lib.hid (show st.take s.data.toList n = ((s.data.toList.drop st.at_).take n, true, ⟨st.at_ + n, st.e, st.tow⟩) from by
        unfold RdSt.take; rw [size_toList]; rw [if_neg (fun hx => hx he), if_neg hlt])
      rw [HT.out]
      have H := Lib.hid h
      clear h
      have hlt' : (n : Int) ≤ (s.size : Int) - (st.at_ : Int) := by omega
      rw [he] at c2
      have HE := Lib.hid he
      clear he
      go_enter Tryz.func91, Tryz.ntmps91
      go_wp2_with fail
      refine (rd_good _ p s st H.out true (by rw [HE.out]; rfl)).mono ?_
      rintro e w1 ⟨rfl, rfl⟩
      go_wp2_with fail
      go_quiet (fail)
      go_wp2_with fail
      go_quiet (fail)
      go_wp2
      go_ret2
      refine ⟨_, by rw [cut_list, Nat.add_sub_cancel_left], rfl, ⟨?_, by show st.at_ + n ≤ s.size; omega, hss⟩, ((Fr.refl (fun k => k = p) w).drewN _).setCell ⟨p, 1, none⟩ (fun _ => rfl) _⟩
      rw [heap_setCell_same _ _ _ _ _ _ (H.out.drewN _).1]
      simp [RdSt.cells, HE.out]
  · have HT := Lib.hid (show st.take s.data.toList n = ([], false, st) from by
      unfold RdSt.take; rw [if_pos he])
    rw [HT.out]
    have H := Lib.hid h
    have HE := Lib.hid he
    clear h he
    go_enter Tryz.func91, Tryz.ntmps91
    go_wp2_with fail
    refine (rd_good _ p s st H.out false (by simpa using HE.out)).mono ?_
    rintro e w1 ⟨rfl, rfl⟩
    go_wp2
    go_ret2
    exact ⟨_, rfl, rfl, H.out, Fr.refl _ _⟩

/-- A number of k bytes. -/
def RdSt.fixed (st : RdSt) (s : List UInt8) (k : Nat) : Nat × RdSt := (val (st.take s k).1, (st.take s k).2.2)
theorem val_snoc (l : List UInt8) (b : UInt8) : val (l ++ [b]) = val l * 256 + b.toNat := by simp [val]
theorem val_lt_from (l : List UInt8) : ∀ a : Nat, l.foldl (fun n b => n * 256 + b.toNat) a < (a + 1) * 256 ^ l.length := by
  induction l with
  | nil => intro a; simp
  | cons b l ih =>
    intro a
    have h := ih (a * 256 + b.toNat)
    have hb := b.toNat_lt
    rw [List.foldl_cons, List.length_cons, Nat.pow_succ, Nat.mul_comm (256 ^ l.length), ← Nat.mul_assoc]
    exact Nat.lt_of_lt_of_le h (Nat.mul_le_mul_right _ (by omega))
theorem val_lt (l : List UInt8) : val l < 256 ^ l.length := by
  have h := val_lt_from l 0
  rw [Nat.zero_add, Nat.one_mul] at h
  exact h
theorem val_lt7 {l : List UInt8} (h : l.length ≤ 7) : val l < 72057594037927936 := by
  have h1 := val_lt l
  have h2 : 256 ^ l.length ≤ 256 ^ 7 := Nat.pow_le_pow_right (by decide) h
  exact Nat.lt_of_lt_of_le h1 h2
theorem take_len (st : RdSt) (s : List UInt8) (n : Nat) : (st.take s n).1.length ≤ n := by
  unfold RdSt.take
  split
  · simp
  · split
    · simp
    · simp; omega

set_option maxHeartbeats 1000000 in
theorem rd_raw (w : World) (p : Nat) (s : ByteArray) (st : RdSt) (h : IsRd w p s st) (n : Nat) (hn : n ≤ 1099511627776) :
    Calls Tryz.prog 55 #[.pointer (some ⟨p, 0, none⟩), .int .i64 (n : Int)] w fun e w' => ∃ r : ByteArray, r.data.toList = (st.take s.data.toList n).1 ∧ e = .returned (.string r) ∧ IsRd w' p s (st.take s.data.toList n).2.2 ∧ Fr (fun k => k = p) w w' := by
  have H := Lib.hid h
  clear h
  go_enter Tryz.func55, Tryz.ntmps55
  go_wp2_with fail
  refine (rd_take _ p s st H.out n hn).mono ?_
  rintro e w1 ⟨r, hr, rfl, h1, hf1⟩
  have HR := Lib.hid hr
  have H1 := Lib.hid h1
  clear hr h1
  go_wp2
  go_ret
  exact ⟨r, HR.out, rfl, H1.out, hf1⟩

theorem or_byte (n : Nat) (b : UInt8) (hn : n < 72057594037927936) : bits .or .u64 ((n : Int) * 256) (IntKind.u64.wrap (b.toNat : Int)) = ((n * 256 + b.toNat : Nat) : Int) := by
  have hb := b.toNat_lt
  rw [show IntKind.u64.wrap (b.toNat : Int) = (b.toNat : Int) from by rw [IntKind.wrap_u64]; omega]
  rw [bits_join .u64 64 (by decide) (fun x h0 h1 => by rw [IntKind.wrap_u64]; omega) 8 ((n : Int) * 256) (b.toNat : Int) (by omega) (by omega) (by omega) (by omega) (by omega) (by omega)]
  omega

theorem val_take_succ (r : ByteArray) (k : Nat) (h : k < r.size) : val (r.data.toList.take (k + 1)) = val (r.data.toList.take k) * 256 + r[k].toNat := by
  rw [List.take_succ_eq_append_getElem (by simpa using h), val_snoc]; rfl

set_option maxHeartbeats 1000000 in
theorem rd_fixed64 (w : World) (p : Nat) (s : ByteArray) (st : RdSt) (h : IsRd w p s st) (k : Nat) (hk : k ≤ 8) :
    Calls Tryz.prog 92 #[.pointer (some ⟨p, 0, none⟩), .int .i64 (k : Int)] w fun e w' => e = .returned (.int .u64 ((st.fixed s.data.toList k).1 : Int)) ∧ IsRd w' p s (st.fixed s.data.toList k).2 ∧ Fr (fun k => k = p) w w' := by
  unfold RdSt.fixed
  have H := Lib.hid h
  clear h
  go_enter Tryz.func92, Tryz.ntmps92
  go_wp2_with fail
  refine (rd_take _ p s st H.out k (by omega)).mono ?_
  rintro e w1 ⟨r, hr, rfl, h1, hf1⟩
  have hrs : r.size ≤ 8 := by rw [size_of_list hr]; exact Nat.le_trans (take_len st s.data.toList k) hk
  have HR := Lib.hid hr
  have H1 := Lib.hid h1
  clear hr h1
  go_wp2
  go_loop [7, 17] (fun v i => ∃ (j n : Nat), j ≤ r.size ∧ i = .int .i64 j ∧ v = .int .u64 (n : Int) ∧ n = val (r.data.toList.take j)) (fun _ i => r.size - (intOf i).toNat)
  case atStart => exact ⟨0, 0, by omega, rfl, rfl, rfl⟩
  case round =>
    obtain ⟨j, n, hj, rfl, rfl, hn⟩ := hrel
    by_cases hlt : j < r.size
    · have hb7 : n < 72057594037927936 := by rw [hn]; exact val_lt7 (by rw [List.length_take]; omega)
      have HO := Lib.hid (or_byte n r[j] hb7)
      have HN := Lib.hid hn
      clear hn
      go_wp2
      go_round
      case rel => exact ⟨j + 1, n * 256 + r[j].toNat, by omega, by go_num, by rw [HO.out], by rw [val_take_succ r j hlt, HN.out]⟩
      case measure => simp [intOf]; omega
    · have HN := Lib.hid hn
      clear hn
      go_wp2
      go_ret
      exact ⟨by rw [← HR.out, HN.out, List.take_of_length_le (by rw [size_toList]; omega)]; rfl, H1.out, hf1⟩

set_option maxHeartbeats 400000 in
theorem rd_u64 (w : World) (p : Nat) (s : ByteArray) (st : RdSt) (h : IsRd w p s st) :
    Calls Tryz.prog 56 #[.pointer (some ⟨p, 0, none⟩)] w fun e w' => e = .returned (.int .u64 ((st.fixed s.data.toList 8).1 : Int)) ∧ IsRd w' p s (st.fixed s.data.toList 8).2 ∧ Fr (fun k => k = p) w w' := by
  have H := Lib.hid h
  clear h
  go_enter Tryz.func56, Tryz.ntmps56
  go_wp2_with fail
  refine (rd_fixed64 _ p s st H.out 8 (by omega)).mono ?_
  rintro e w1 ⟨rfl, h1, hf1⟩
  have H1 := Lib.hid h1
  clear h1
  go_wp2
  go_ret
  exact ⟨rfl, H1.out, hf1⟩

theorem val_lt2 {l : List UInt8} (h : l.length ≤ 2) : val l < 65536 := by
  have h1 := val_lt l
  have h2 : 256 ^ l.length ≤ 256 ^ 2 := Nat.pow_le_pow_right (by decide) h
  exact Nat.lt_of_lt_of_le h1 h2

set_option maxHeartbeats 400000 in
theorem rd_err (w : World) (p : Nat) (s : ByteArray) (st : RdSt) (h : IsRd w p s st) :
    Calls Tryz.prog 58 #[.pointer (some ⟨p, 0, none⟩)] w fun e w' => e = .returned (.tuple #[.int .i64 st.e, .int .i64 st.tow]) ∧ ∃ n, w' = w.drewN n := by
  obtain ⟨c0, c1, c2, c3⟩ := h.cs
  clear h
  go_enter Tryz.func58, Tryz.ntmps58
  go_wp2_with fail
  go_quiet (fail)
  go_wp2
  go_ret2
  exact ⟨rfl, _, rfl⟩

set_option maxHeartbeats 400000 in
theorem rd_left (w : World) (p : Nat) (s : ByteArray) (st : RdSt) (h : IsRd w p s st) :
    Calls Tryz.prog 59 #[.pointer (some ⟨p, 0, none⟩)] w fun e w' => e = .returned (.int .i64 ((s.size : Int) - (st.at_ : Int))) ∧ ∃ n, w' = w.drewN n := by
  obtain ⟨c0, c1, c2, c3⟩ := h.cs
  have h1 := h.2.1
  have h2 := h.2.2
  clear h
  go_enter Tryz.func59, Tryz.ntmps59
  go_wp2_with fail
  go_quiet (fail)
  go_wp2
  go_ret
  exact ⟨rfl, _, rfl⟩

/-- What End tells. -/
def RdSt.ended (st : RdSt) (n : Nat) : Int := if st.e = 0 ∧ st.at_ < n then 4 else st.e

set_option maxHeartbeats 400000 in
theorem rd_end (w : World) (p : Nat) (s : ByteArray) (st : RdSt) (h : IsRd w p s st) :
    Calls Tryz.prog 96 #[.pointer (some ⟨p, 0, none⟩)] w fun e w' => e = .returned (.int .i64 (st.ended s.size)) ∧ ∃ n, w' = w.drewN n := by
  by_cases he : st.e = 0
  · by_cases hlt : st.at_ < s.size
    · rw [show st.ended s.size = 4 from by unfold RdSt.ended; rw [if_pos ⟨he, hlt⟩]]
      have H := Lib.hid h
      have HE := Lib.hid he
      clear h he
      go_enter Tryz.func96, Tryz.ntmps96
      go_wp2_with fail
      refine (rd_err _ p s st H.out).mono ?_
      rintro e w1 ⟨rfl, n1, rfl⟩
      rw [HE.out]
      go_wp2_with fail
      refine (rd_left _ p s st (H.out.drewN _)).mono ?_
      rintro e w1 ⟨rfl, n2, rfl⟩
      go_wp2
      go_ret
      exact ⟨rfl, _, rfl⟩
    · rw [show st.ended s.size = 0 from by unfold RdSt.ended; rw [if_neg (fun h => hlt h.2), he]]
      have H := Lib.hid h
      have HE := Lib.hid he
      clear h he
      go_enter Tryz.func96, Tryz.ntmps96
      go_wp2_with fail
      refine (rd_err _ p s st H.out).mono ?_
      rintro e w1 ⟨rfl, n1, rfl⟩
      rw [HE.out]
      go_wp2_with fail
      refine (rd_left _ p s st (H.out.drewN _)).mono ?_
      rintro e w1 ⟨rfl, n2, rfl⟩
      go_wp2
      go_ret
      exact ⟨rfl, _, rfl⟩
  · rw [show st.ended s.size = st.e from by unfold RdSt.ended; rw [if_neg (fun h => he h.1)]]
    have H := Lib.hid h
    have hE : (st.e == 0) = false := by simpa using he
    clear h he
    go_enter Tryz.func96, Tryz.ntmps96
    go_wp2_with fail
    refine (rd_err _ p s st H.out).mono ?_
    rintro e w1 ⟨rfl, n1, rfl⟩
    go_wp2
    go_ret
    exact ⟨rfl, _, rfl⟩

end Go.Proofs.YteikdcobpfohcaaGreatDoor

/- The walks of wire.Writer's methods. -/
namespace Go.Proofs.YteikdcobpfohcaaGreatDoor
open Go.RowKit

/-- A number's bytes, so many, the highest first. -/
def be : Nat → Nat → List UInt8
  | 0, _ => []
  | k + 1, n => be k (n / 256) ++ [UInt8.ofNat (n % 256)]
theorem be_length (k n : Nat) : (be k n).length = k := by induction k generalizing n with
  | zero => rfl
  | succ k ih => simp [be, ih]
theorem u8v_ofNat (x : Nat) : u8v (UInt8.ofNat (x % 256)) = .int .u8 ((x % 256 : Nat) : Int) := by
  unfold u8v; congr 2; simp
theorem be_add (k m n : Nat) : be (k + m) n = be k (n / 256 ^ m) ++ be m n := by
  induction m generalizing n with
  | zero => simp [be]
  | succ m ih =>
    rw [← Nat.add_assoc]
    simp only [be]
    rw [ih, List.append_assoc, Nat.pow_succ, Nat.mul_comm, Nat.div_div_eq_div_mul]

theorem be_cells1 (n : Nat) : [Value.int .u8 ((n : Int) % 256)] = (be 1 n).map u8v := by
  simp only [be, List.nil_append, List.map_cons, List.map_nil, u8v_ofNat]
  rfl
theorem be_cells1b (n : Nat) : [Value.int .u8 ((n : Int) / 256 % 256)] = (be 1 (n / 256)).map u8v := by
  rw [← be_cells1]; rfl
theorem be_cells2 (n : Nat) : [Value.int .u8 ((n : Int) / 16777216 % 256), Value.int .u8 ((n : Int) / 65536 % 256)] = (be 2 (n / 65536)).map u8v := by
  simp only [be, List.nil_append, List.map_cons, List.map_nil, List.cons_append, u8v_ofNat]
  have e1 : (n : Int) / 16777216 % 256 = ((n / 65536 / 256 % 256 : Nat) : Int) := by omega
  have e2 : (n : Int) / 65536 % 256 = ((n / 65536 % 256 : Nat) : Int) := by omega
  rw [e1, e2]
theorem be_cells4 (n : Nat) (hn : n < 18446744073709551616) : [Value.int .u8 ((n : Int) / 72057594037927936), Value.int .u8 ((n : Int) / 281474976710656 % 256), Value.int .u8 ((n : Int) / 1099511627776 % 256), Value.int .u8 ((n : Int) / 4294967296 % 256)] = (be 4 (n / 4294967296)).map u8v := by
  simp only [be, List.nil_append, List.map_cons, List.map_nil, List.cons_append, u8v_ofNat]
  have e1 : (n : Int) / 72057594037927936 = ((n / 4294967296 / 256 / 256 / 256 % 256 : Nat) : Int) := by omega
  have e2 : (n : Int) / 281474976710656 % 256 = ((n / 4294967296 / 256 / 256 % 256 : Nat) : Int) := by omega
  have e3 : (n : Int) / 1099511627776 % 256 = ((n / 4294967296 / 256 % 256 : Nat) : Int) := by omega
  have e4 : (n : Int) / 4294967296 % 256 = ((n / 4294967296 % 256 : Nat) : Int) := by omega
  rw [e1, e2, e3, e4]
theorem be2 (n : Nat) (L : List UInt8) : (L ++ be 1 (n / 256)) ++ be 1 n = L ++ be 2 n := by
  rw [List.append_assoc, ← show be 2 n = be 1 (n / 256) ++ be 1 n from be_add 1 1 n]
theorem be4 (n : Nat) (L : List UInt8) : ((L ++ be 2 (n / 65536)) ++ be 1 (n / 256)) ++ be 1 n = L ++ be 4 n := by
  rw [be2, List.append_assoc, ← show be 4 n = be 2 (n / 65536) ++ be 2 n from be_add 2 2 n]
theorem be8 (n : Nat) (L : List UInt8) : (((L ++ be 4 (n / 4294967296)) ++ be 2 (n / 65536)) ++ be 1 (n / 256)) ++ be 1 n = L ++ be 8 n := by
  rw [be4, List.append_assoc, ← show be 8 n = be 4 (n / 4294967296) ++ be 4 n from be_add 4 4 n]

theorem len_step {L : List UInt8} {a : Nat} (m n : Nat) (h : L.length ≤ a) : (L ++ be m n).length ≤ a + m := by rw [List.length_append, be_length]; omega

/-- A writer lies in block p; it has written L. -/
structure IsWr (w : World) (p : Nat) (v : Value) (L : List UInt8) : Prop where
  cell : w.heap[p]? = some (.cells #[v] 122 (0, 0))
  own : w.ownsRow 0 5 1 v L.length (L.map u8v)
  ne : v.ownBlock ≠ some p

/-- What a method of a writer leaves: what it has written, and that nothing but its own memory has turned. -/
structure WrTo (p : Nat) (w w' : World) (v v' : Value) (L : List UInt8) : Prop where
  is : IsWr w' p v' L
  fr : Fr (fun k => k = p ∨ v.ownBlock = some k) w w'
  went : Went w v v'

theorem IsWr.lt {w : World} {p : Nat} {v : Value} {L : List UInt8} (h : IsWr w p v L) : p < w.heap.size := lt_of_block h.cell
theorem IsWr.kept {S : Nat → Prop} {w w' : World} {p : Nat} {v : Value} {L : List UInt8} (h : IsWr w p v L) (hf : Fr S w w') (hp : ¬ S p) (ho : ∀ g, v.ownBlock = some g → ¬ S g) : IsWr w' p v L :=
  ⟨hf.heapAt h.cell hp, hf.ownsRow h.own ho, h.ne⟩

theorem WrTo.trans {p : Nat} {w w1 w2 : World} {v v1 v2 : Value} {L1 L2 : List UInt8} (h : WrTo p w w1 v v1 L1) (k : WrTo p w1 w2 v1 v2 L2) : WrTo p w w2 v v2 L2 :=
  ⟨k.is, h.fr.then k.fr (fun _ hi e => e.imp id (fun e => h.went.old hi e)), h.went.trans k.went h.fr.size⟩

theorem Tryz.infoU8 : (Tryz.prog.info? 5).map (fun i => (i.zero, i.size, i.bytes)) = some (some (.int .u8 0), 1, 1) := by kernel_rfl

/-- An append of a row of new bytes to the writer's, and the store of what comes of it. -/
theorem wr_step {w w1 : World} {p : Nat} {v v1 : Value} {L : List UInt8} {m : Nat} {C : List Value} {B : List UInt8} (o : Obj) (h : IsWr w p v L) (hC : C = B.map u8v) (hm : m = B.length)
    (hown : w1.ownsRow 0 5 1 v1 (L.length + m) (L.map u8v ++ C)) (hg : (w.alloc o).grownBy w1 v.ownBlock) (hw : v1.ownBlock = v.ownBlock ∨ v1.ownBlock = some (w.alloc o).heap.size) :
    WrTo p w (w1.setCell ⟨p, 0, none⟩ v1) v v1 (L ++ B) := by
  have hp := h.lt
  have hne : v1.ownBlock ≠ some p := by
    rcases hw with hw | hw
    · rw [hw]; exact h.ne
    · rw [hw]; intro e; have := Option.some.inj e; simp at this; omega
  have hcell : w1.heap[p]? = some (.cells #[v] 122 (0, 0)) := by
    rw [hg.block p (by simp; omega) (fun e => h.ne e.symm), Below.heap_alloc _ _ _ hp]; exact h.cell
  have hfr : Fr (fun k => k = p ∨ v.ownBlock = some k) w w1 := ((Fr.refl _ w).alloc o).grown hg (fun k _ e => .inr e)
  subst hC hm
  refine ⟨⟨one_setCell hcell, ?_, hne⟩, hfr.setCell _ (fun _ => .inl rfl) _, ?_⟩
  · have := ownsRow_setCell_other hown (a := ⟨p, 0, none⟩) hne v1
    rw [List.length_append, List.map_append]; exact this
  · rcases hw with hw | hw
    · exact .inl hw
    · exact .inr ⟨_, hw, by simp⟩

theorem wr_cell {w w1 : World} {p : Nat} {v : Value} {L : List UInt8} {o : Obj} (h : IsWr w p v L) (hg : (w.alloc o).grownBy w1 v.ownBlock) : w1.heap[p]? = some (.cells #[v] 122 (0, 0)) := by
  have hp := h.lt
  rw [hg.block p (by simp; omega) (fun e => h.ne e.symm), Below.heap_alloc _ _ _ hp]; exact h.cell

/-- A string's bytes behind the writer's. -/
theorem wr_str {w w1 : World} {p : Nat} {v v1 : Value} {L : List UInt8} {s : ByteArray} (h : IsWr w p v L)
    (hown : w1.ownsRow 0 5 1 v1 (L.length + s.size) (L.map u8v ++ Lib.strCells s)) (hg : w.grownBy w1 v.ownBlock) (hw : Went w v v1) :
    WrTo p w (w1.setCell ⟨p, 0, none⟩ v1) v v1 (L ++ s.data.toList) := by
  have hp := h.lt
  have hne : v1.ownBlock ≠ some p := fun e => h.ne (hw.old hp e)
  have hcell : w1.heap[p]? = some (.cells #[v] 122 (0, 0)) := by
    rw [hg.block p hp (fun e => h.ne e.symm)]; exact h.cell
  have hfr : Fr (fun k => k = p ∨ v.ownBlock = some k) w w1 := (Fr.refl _ w).grown hg (fun k _ e => .inr e)
  refine ⟨⟨one_setCell hcell, ?_, hne⟩, hfr.setCell _ (fun _ => .inl rfl) _, hw⟩
  have := ownsRow_setCell_other hown (a := ⟨p, 0, none⟩) hne v1
  rw [List.length_append, List.map_append, size_toList]; exact this

set_option maxRecDepth 100000 in
set_option maxHeartbeats 4000000 in
theorem fixed1 (n : Nat) (p : Nat) (v : Value) (L : List UInt8) (w : World) (h : IsWr w p v L) (hL : L.length ≤ 1073741824) :
    Calls Tryz.prog 103 #[.pointer (some ⟨p, 0, none⟩), .int .u64 (n : Int), .int .i64 1] w fun e w' => e = .returned (.tuple #[]) ∧ ∃ v', WrTo p w w' v v' (L ++ be 1 n) := by
  have hc := cell_of_one h.cell
  have hf := free_of_one h.cell
  have H := Lib.hid h
  have hlt := h.lt
  obtain ⟨i0, hi, hz0, hz1, hz2⟩ := info_parts Tryz.infoU8
  have HI := Lib.hid hi
  have HZ0 := Lib.hid hz0
  have HZ1 := Lib.hid hz1
  have HZ2 := Lib.hid hz2
  clear h hi hz0 hz1 hz2
  have tok1 : True := trivial
  go_enter Tryz.func103, Tryz.ntmps103
  go_wp2_with (first
    | (at_builtin; have _t := tok1; refine wpList_append_own_at _ rfl _ _ 120 rfl 0 5 i0 (.int .u8 0) 1 1 Tryz.underlying120 HI.out HZ0.out HZ1.out HZ2.out rfl (by decide) _ _ _ rfl (H.out.own.alloc _) ⟨w.heap.size, 0, none⟩ 1 1 [.int .u8 ((n : Int) % 256)] rfl rfl (cells_new rfl (by simp)) (by simp [Value.oneCell']) (by unfold maxLen; omega) (by omega) (Nat.zero_le _) ?_; intro v1 w1 hown1 hg1 _ hw1; obtain ⟨a1, n1, c1, rfl⟩ := own_shape hown1; have hc1 := cell_of_one (wr_cell H.out hg1); have hf1 := free_of_one (wr_cell H.out hg1); have H1 := Lib.hid (wr_step _ H.out (be_cells1 n) (be_length 1 n).symm hown1 hg1 hw1); have hl1 := len_step 1 n hL; clear tok1))
  go_end0
  exact ⟨rfl, _, H1.out⟩

set_option maxRecDepth 100000 in
set_option maxHeartbeats 4000000 in
theorem fixed2 (n : Nat) (p : Nat) (v : Value) (L : List UInt8) (w : World) (h : IsWr w p v L) (hL : L.length ≤ 1073741824) :
    Calls Tryz.prog 103 #[.pointer (some ⟨p, 0, none⟩), .int .u64 (n : Int), .int .i64 2] w fun e w' => e = .returned (.tuple #[]) ∧ ∃ v', WrTo p w w' v v' (L ++ be 2 n) := by
  have hc := cell_of_one h.cell
  have hf := free_of_one h.cell
  have H := Lib.hid h
  have hlt := h.lt
  obtain ⟨i0, hi, hz0, hz1, hz2⟩ := info_parts Tryz.infoU8
  have HI := Lib.hid hi
  have HZ0 := Lib.hid hz0
  have HZ1 := Lib.hid hz1
  have HZ2 := Lib.hid hz2
  clear h hi hz0 hz1 hz2
  have tok1 : True := trivial
  have tok2 : True := trivial
  go_enter Tryz.func103, Tryz.ntmps103
  go_wp2_with (first
    | (at_builtin; have _t := tok1; refine wpList_append_own_at _ rfl _ _ 120 rfl 0 5 i0 (.int .u8 0) 1 1 Tryz.underlying120 HI.out HZ0.out HZ1.out HZ2.out rfl (by decide) _ _ _ rfl (H.out.own.alloc _) ⟨w.heap.size, 0, none⟩ 1 1 [.int .u8 ((n : Int) / 256 % 256)] rfl rfl (cells_new rfl (by simp)) (by simp [Value.oneCell']) (by unfold maxLen; omega) (by omega) (Nat.zero_le _) ?_; intro v1 w1 hown1 hg1 _ hw1; obtain ⟨a1, n1, c1, rfl⟩ := own_shape hown1; have hc1 := cell_of_one (wr_cell H.out hg1); have hf1 := free_of_one (wr_cell H.out hg1); have H1 := Lib.hid (wr_step _ H.out (be_cells1b n) (be_length 1 (n / 256)).symm hown1 hg1 hw1); have hl1 := len_step 1 (n / 256) hL; clear tok1)
    | (at_builtin; have _t := tok2; refine wpList_append_own_at _ rfl _ _ 120 rfl 0 5 i0 (.int .u8 0) 1 1 Tryz.underlying120 HI.out HZ0.out HZ1.out HZ2.out rfl (by decide) _ _ _ rfl (H1.out.is.own.alloc _) ⟨w1.heap.size, 0, none⟩ 1 1 [.int .u8 ((n : Int) % 256)] rfl rfl (cells_new rfl (by simp)) (by simp [Value.oneCell']) (by unfold maxLen; omega) (by omega) (Nat.zero_le _) ?_; intro v2 w2 hown2 hg2 _ hw2; obtain ⟨a2, n2, c2, rfl⟩ := own_shape hown2; have hc2 := cell_of_one (wr_cell H1.out.is hg2); have hf2 := free_of_one (wr_cell H1.out.is hg2); have H2 := Lib.hid (wr_step _ H1.out.is (be_cells1 n) (be_length 1 n).symm hown2 hg2 hw2); have hl2 := len_step 1 n hl1; clear tok2))
  go_end0
  exact ⟨rfl, _, be2 n L ▸ (H1.out).trans H2.out⟩

set_option maxRecDepth 100000 in
set_option maxHeartbeats 4000000 in
theorem fixed4 (n : Nat) (p : Nat) (v : Value) (L : List UInt8) (w : World) (h : IsWr w p v L) (hL : L.length ≤ 1073741824) :
    Calls Tryz.prog 103 #[.pointer (some ⟨p, 0, none⟩), .int .u64 (n : Int), .int .i64 4] w fun e w' => e = .returned (.tuple #[]) ∧ ∃ v', WrTo p w w' v v' (L ++ be 4 n) := by
  have hc := cell_of_one h.cell
  have hf := free_of_one h.cell
  have H := Lib.hid h
  have hlt := h.lt
  obtain ⟨i0, hi, hz0, hz1, hz2⟩ := info_parts Tryz.infoU8
  have HI := Lib.hid hi
  have HZ0 := Lib.hid hz0
  have HZ1 := Lib.hid hz1
  have HZ2 := Lib.hid hz2
  clear h hi hz0 hz1 hz2
  have tok1 : True := trivial
  have tok2 : True := trivial
  have tok3 : True := trivial
  go_enter Tryz.func103, Tryz.ntmps103
  go_wp2_with (first
    | (at_builtin; have _t := tok1; refine wpList_append_own_at _ rfl _ _ 120 rfl 0 5 i0 (.int .u8 0) 1 1 Tryz.underlying120 HI.out HZ0.out HZ1.out HZ2.out rfl (by decide) _ _ _ rfl (H.out.own.alloc _) ⟨w.heap.size, 0, none⟩ 2 2 [.int .u8 ((n : Int) / 16777216 % 256), .int .u8 ((n : Int) / 65536 % 256)] rfl rfl (cells_new rfl (by simp)) (by simp [Value.oneCell']) (by unfold maxLen; omega) (by omega) (Nat.zero_le _) ?_; intro v1 w1 hown1 hg1 _ hw1; obtain ⟨a1, n1, c1, rfl⟩ := own_shape hown1; have hc1 := cell_of_one (wr_cell H.out hg1); have hf1 := free_of_one (wr_cell H.out hg1); have H1 := Lib.hid (wr_step _ H.out (be_cells2 n) (be_length 2 (n / 65536)).symm hown1 hg1 hw1); have hl1 := len_step 2 (n / 65536) hL; clear tok1)
    | (at_builtin; have _t := tok2; refine wpList_append_own_at _ rfl _ _ 120 rfl 0 5 i0 (.int .u8 0) 1 1 Tryz.underlying120 HI.out HZ0.out HZ1.out HZ2.out rfl (by decide) _ _ _ rfl (H1.out.is.own.alloc _) ⟨w1.heap.size, 0, none⟩ 1 1 [.int .u8 ((n : Int) / 256 % 256)] rfl rfl (cells_new rfl (by simp)) (by simp [Value.oneCell']) (by unfold maxLen; omega) (by omega) (Nat.zero_le _) ?_; intro v2 w2 hown2 hg2 _ hw2; obtain ⟨a2, n2, c2, rfl⟩ := own_shape hown2; have hc2 := cell_of_one (wr_cell H1.out.is hg2); have hf2 := free_of_one (wr_cell H1.out.is hg2); have H2 := Lib.hid (wr_step _ H1.out.is (be_cells1b n) (be_length 1 (n / 256)).symm hown2 hg2 hw2); have hl2 := len_step 1 (n / 256) hl1; clear tok2)
    | (at_builtin; have _t := tok3; refine wpList_append_own_at _ rfl _ _ 120 rfl 0 5 i0 (.int .u8 0) 1 1 Tryz.underlying120 HI.out HZ0.out HZ1.out HZ2.out rfl (by decide) _ _ _ rfl (H2.out.is.own.alloc _) ⟨w2.heap.size, 0, none⟩ 1 1 [.int .u8 ((n : Int) % 256)] rfl rfl (cells_new rfl (by simp)) (by simp [Value.oneCell']) (by unfold maxLen; omega) (by omega) (Nat.zero_le _) ?_; intro v3 w3 hown3 hg3 _ hw3; obtain ⟨a3, n3, c3, rfl⟩ := own_shape hown3; have hc3 := cell_of_one (wr_cell H2.out.is hg3); have hf3 := free_of_one (wr_cell H2.out.is hg3); have H3 := Lib.hid (wr_step _ H2.out.is (be_cells1 n) (be_length 1 n).symm hown3 hg3 hw3); have hl3 := len_step 1 n hl2; clear tok3))
  go_end0
  exact ⟨rfl, _, be4 n L ▸ ((H1.out).trans H2.out).trans H3.out⟩

set_option maxRecDepth 100000 in
set_option maxHeartbeats 4000000 in
theorem fixed8 (n : Nat) (p : Nat) (v : Value) (L : List UInt8) (w : World) (hn : n < 18446744073709551616) (h : IsWr w p v L) (hL : L.length ≤ 1073741824) :
    Calls Tryz.prog 103 #[.pointer (some ⟨p, 0, none⟩), .int .u64 (n : Int), .int .i64 8] w fun e w' => e = .returned (.tuple #[]) ∧ ∃ v', WrTo p w w' v v' (L ++ be 8 n) := by
  have HC4 := Lib.hid (be_cells4 n hn)
  have hc := cell_of_one h.cell
  have hf := free_of_one h.cell
  have H := Lib.hid h
  have hlt := h.lt
  obtain ⟨i0, hi, hz0, hz1, hz2⟩ := info_parts Tryz.infoU8
  have HI := Lib.hid hi
  have HZ0 := Lib.hid hz0
  have HZ1 := Lib.hid hz1
  have HZ2 := Lib.hid hz2
  clear h hi hz0 hz1 hz2
  have tok1 : True := trivial
  have tok2 : True := trivial
  have tok3 : True := trivial
  have tok4 : True := trivial
  go_enter Tryz.func103, Tryz.ntmps103
  go_wp2_with (first
    | (at_builtin; have _t := tok1; refine wpList_append_own_at _ rfl _ _ 120 rfl 0 5 i0 (.int .u8 0) 1 1 Tryz.underlying120 HI.out HZ0.out HZ1.out HZ2.out rfl (by decide) _ _ _ rfl (H.out.own.alloc _) ⟨w.heap.size, 0, none⟩ 4 4 [.int .u8 ((n : Int) / 72057594037927936), .int .u8 ((n : Int) / 281474976710656 % 256), .int .u8 ((n : Int) / 1099511627776 % 256), .int .u8 ((n : Int) / 4294967296 % 256)] rfl rfl (cells_new rfl (by simp)) (by simp [Value.oneCell']) (by unfold maxLen; omega) (by omega) (Nat.zero_le _) ?_; intro v1 w1 hown1 hg1 _ hw1; obtain ⟨a1, n1, c1, rfl⟩ := own_shape hown1; have hc1 := cell_of_one (wr_cell H.out hg1); have hf1 := free_of_one (wr_cell H.out hg1); have H1 := Lib.hid (wr_step _ H.out HC4.out (be_length 4 (n / 4294967296)).symm hown1 hg1 hw1); have hl1 := len_step 4 (n / 4294967296) hL; clear tok1)
    | (at_builtin; have _t := tok2; refine wpList_append_own_at _ rfl _ _ 120 rfl 0 5 i0 (.int .u8 0) 1 1 Tryz.underlying120 HI.out HZ0.out HZ1.out HZ2.out rfl (by decide) _ _ _ rfl (H1.out.is.own.alloc _) ⟨w1.heap.size, 0, none⟩ 2 2 [.int .u8 ((n : Int) / 16777216 % 256), .int .u8 ((n : Int) / 65536 % 256)] rfl rfl (cells_new rfl (by simp)) (by simp [Value.oneCell']) (by unfold maxLen; omega) (by omega) (Nat.zero_le _) ?_; intro v2 w2 hown2 hg2 _ hw2; obtain ⟨a2, n2, c2, rfl⟩ := own_shape hown2; have hc2 := cell_of_one (wr_cell H1.out.is hg2); have hf2 := free_of_one (wr_cell H1.out.is hg2); have H2 := Lib.hid (wr_step _ H1.out.is (be_cells2 n) (be_length 2 (n / 65536)).symm hown2 hg2 hw2); have hl2 := len_step 2 (n / 65536) hl1; clear tok2)
    | (at_builtin; have _t := tok3; refine wpList_append_own_at _ rfl _ _ 120 rfl 0 5 i0 (.int .u8 0) 1 1 Tryz.underlying120 HI.out HZ0.out HZ1.out HZ2.out rfl (by decide) _ _ _ rfl (H2.out.is.own.alloc _) ⟨w2.heap.size, 0, none⟩ 1 1 [.int .u8 ((n : Int) / 256 % 256)] rfl rfl (cells_new rfl (by simp)) (by simp [Value.oneCell']) (by unfold maxLen; omega) (by omega) (Nat.zero_le _) ?_; intro v3 w3 hown3 hg3 _ hw3; obtain ⟨a3, n3, c3, rfl⟩ := own_shape hown3; have hc3 := cell_of_one (wr_cell H2.out.is hg3); have hf3 := free_of_one (wr_cell H2.out.is hg3); have H3 := Lib.hid (wr_step _ H2.out.is (be_cells1b n) (be_length 1 (n / 256)).symm hown3 hg3 hw3); have hl3 := len_step 1 (n / 256) hl2; clear tok3)
    | (at_builtin; have _t := tok4; refine wpList_append_own_at _ rfl _ _ 120 rfl 0 5 i0 (.int .u8 0) 1 1 Tryz.underlying120 HI.out HZ0.out HZ1.out HZ2.out rfl (by decide) _ _ _ rfl (H3.out.is.own.alloc _) ⟨w3.heap.size, 0, none⟩ 1 1 [.int .u8 ((n : Int) % 256)] rfl rfl (cells_new rfl (by simp)) (by simp [Value.oneCell']) (by unfold maxLen; omega) (by omega) (Nat.zero_le _) ?_; intro v4 w4 hown4 hg4 _ hw4; obtain ⟨a4, n4, c4, rfl⟩ := own_shape hown4; have hc4 := cell_of_one (wr_cell H3.out.is hg4); have hf4 := free_of_one (wr_cell H3.out.is hg4); have H4 := Lib.hid (wr_step _ H3.out.is (be_cells1 n) (be_length 1 n).symm hown4 hg4 hw4); have hl4 := len_step 1 n hl3; clear tok4))
  go_end0
  exact ⟨rfl, _, be8 n L ▸ (((H1.out).trans H2.out).trans H3.out).trans H4.out⟩

set_option maxHeartbeats 400000 in
theorem wr_u64 (n : Nat) (p : Nat) (v : Value) (L : List UInt8) (w : World) (hn : n < 18446744073709551616) (h : IsWr w p v L) (hL : L.length ≤ 1073741824) :
    Calls Tryz.prog 66 #[.pointer (some ⟨p, 0, none⟩), .int .u64 (n : Int)] w fun e w' => e = .returned (.tuple #[]) ∧ ∃ v', WrTo p w w' v v' (L ++ be 8 n) := by
  have H := Lib.hid h
  clear h
  go_enter Tryz.func66, Tryz.ntmps66
  go_wp2_with fail
  refine (fixed8 n p v L _ hn H.out hL).mono ?_
  rintro e w1 ⟨rfl, h1⟩
  have H1 := Lib.hid h1
  clear h1
  go_wp2
  go_end0
  exact ⟨rfl, H1.out⟩

set_option maxHeartbeats 1000000 in
theorem wr_raw (s : ByteArray) (p : Nat) (v : Value) (L : List UInt8) (w : World) (h : IsWr w p v L) (hL : L.length + s.size ≤ 140737488355328) :
    Calls Tryz.prog 65 #[.pointer (some ⟨p, 0, none⟩), .string s] w fun e w' => e = .returned (.tuple #[]) ∧ ∃ v', WrTo p w w' v v' (L ++ s.data.toList) := by
  have hc := cell_of_one h.cell
  have hf := free_of_one h.cell
  have H := Lib.hid h
  have hlt := h.lt
  obtain ⟨i0, hi, hz0, hz1, hz2⟩ := info_parts Tryz.infoU8
  have HI := Lib.hid hi
  have HZ0 := Lib.hid hz0
  have HZ1 := Lib.hid hz1
  have HZ2 := Lib.hid hz2
  clear h hi hz0 hz1 hz2
  go_enter Tryz.func65, Tryz.ntmps65
  go_wp2_with (at_builtin; refine wpList_append_str_at _ rfl _ _ 120 9 rfl 5 i0 Tryz.underlying120 Tryz.underlying9 HI.out HZ0.out HZ1.out HZ2.out v L.length _ rfl H.out.own s rfl (by unfold maxLen; omega) (by omega) ?_; intro v1 w1 hown1 hg1 hw1; have HW := Lib.hid hw1; clear hw1; obtain ⟨a1, n1, c1, rfl⟩ := own_shape hown1; have hc1 := cell_of_one ((hg1.block p hlt (fun e => H.out.ne e.symm)).trans H.out.cell); have hf1 := free_of_one ((hg1.block p hlt (fun e => H.out.ne e.symm)).trans H.out.cell))
  go_end0
  exact ⟨rfl, _, wr_str H.out hown1 hg1 HW.out⟩

/-- The bytes of an owned row lie in memory. -/
theorem own_conv {w : World} {v : Value} {L : List UInt8} (h : w.ownsRow 0 5 1 v L.length (L.map u8v)) : (convert 120 9 v).run Tryz.prog w = .ok (.string ⟨L.toArray⟩) w := by
  rcases h.2 with ⟨hv, hn⟩ | ⟨g, cap, cur, hv, _⟩
  · have : L = [] := List.eq_nil_of_length_eq_zero hn
    subst hv this
    rw [run_convert_bytes_nil (P := Tryz.prog) w 120 5 Tryz.underlying120 Tryz.underlying5 0 0 9 Tryz.underlying9]
    rfl
  · subst hv
    refine conv_bytes w _ _ _ Tryz.underlying120 Tryz.underlying5 Tryz.underlying9 g 0 L.length cap L rfl (fun i hi => ?_)
    rw [Nat.zero_add, h.cellAt i (by omega)]
    simp [hi]

set_option maxHeartbeats 400000 in
theorem wr_bytes (p : Nat) (v : Value) (L : List UInt8) (w : World) (h : IsWr w p v L) :
    Calls Tryz.prog 69 #[.pointer (some ⟨p, 0, none⟩)] w fun e w' => ∃ r : ByteArray, r.data.toList = L ∧ e = .returned (.string r) ∧ w = w' := by
  have hc := cell_of_one h.cell
  have hconv := own_conv h.own
  obtain ⟨a, n, c, rfl⟩ := own_shape h.own
  obtain ⟨q, hq, eq⟩ := str_ex L
  rw [eq] at hconv
  have HQ := Lib.hid hq
  clear hq eq h
  go_enter Tryz.func69, Tryz.ntmps69
  go_wp2
  go_ret
  exact ⟨q, HQ.out, rfl, rfl⟩

end Go.Proofs.YteikdcobpfohcaaGreatDoor
