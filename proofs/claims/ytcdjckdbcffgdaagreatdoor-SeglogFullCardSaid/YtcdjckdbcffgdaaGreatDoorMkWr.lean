/- The walks of wire.Writer's methods. -/
import Derived.Test.YtcdjckdbcffgdaaGreatDoorChecked
import Derived.Test.YtcdjckdbcffgdaaGreatDoorMAa
namespace Go.Proofs.YtcdjckdbcffgdaaGreatDoor
open Go.RowKit

/-- A number's bytes, so many, the highest first. -/
def be : Nat → Nat → List UInt8
  | 0, _ => []
  | k + 1, n => be k (n / 256) ++ [UInt8.ofNat (n % 256)]
theorem be_length (k n : Nat) : (be k n).length = k := by induction k generalizing n with
  | zero => rfl
  | succ k ih => simp [be, ih]
theorem u8v_ofNat (x : Nat) : u8v (UInt8.ofNat (x % 256)) = .int .u8 ((x % 256 : Nat) : Int) := by
  unfold u8v; congr 2; simp
theorem be_add (k m n : Nat) : be (k + m) n = be k (n / 256 ^ m) ++ be m n := by
  induction m generalizing n with
  | zero => simp [be]
  | succ m ih =>
    rw [← Nat.add_assoc]
    simp only [be]
    rw [ih, List.append_assoc, Nat.pow_succ, Nat.mul_comm, Nat.div_div_eq_div_mul]

theorem be_cells1 (n : Nat) : [Value.int .u8 ((n : Int) % 256)] = (be 1 n).map u8v := by
  simp only [be, List.nil_append, List.map_cons, List.map_nil, u8v_ofNat]
  rfl
theorem be_cells1b (n : Nat) : [Value.int .u8 ((n : Int) / 256 % 256)] = (be 1 (n / 256)).map u8v := by
  rw [← be_cells1]; rfl
theorem be_cells2 (n : Nat) : [Value.int .u8 ((n : Int) / 16777216 % 256), Value.int .u8 ((n : Int) / 65536 % 256)] = (be 2 (n / 65536)).map u8v := by
  simp only [be, List.nil_append, List.map_cons, List.map_nil, List.cons_append, u8v_ofNat]
  have e1 : (n : Int) / 16777216 % 256 = ((n / 65536 / 256 % 256 : Nat) : Int) := by omega
  have e2 : (n : Int) / 65536 % 256 = ((n / 65536 % 256 : Nat) : Int) := by omega
  rw [e1, e2]
theorem be_cells4 (n : Nat) (hn : n < 18446744073709551616) : [Value.int .u8 ((n : Int) / 72057594037927936), Value.int .u8 ((n : Int) / 281474976710656 % 256), Value.int .u8 ((n : Int) / 1099511627776 % 256), Value.int .u8 ((n : Int) / 4294967296 % 256)] = (be 4 (n / 4294967296)).map u8v := by
  simp only [be, List.nil_append, List.map_cons, List.map_nil, List.cons_append, u8v_ofNat]
  have e1 : (n : Int) / 72057594037927936 = ((n / 4294967296 / 256 / 256 / 256 % 256 : Nat) : Int) := by omega
  have e2 : (n : Int) / 281474976710656 % 256 = ((n / 4294967296 / 256 / 256 % 256 : Nat) : Int) := by omega
  have e3 : (n : Int) / 1099511627776 % 256 = ((n / 4294967296 / 256 % 256 : Nat) : Int) := by omega
  have e4 : (n : Int) / 4294967296 % 256 = ((n / 4294967296 % 256 : Nat) : Int) := by omega
  rw [e1, e2, e3, e4]
theorem be2 (n : Nat) (L : List UInt8) : (L ++ be 1 (n / 256)) ++ be 1 n = L ++ be 2 n := by
  rw [List.append_assoc, ← show be 2 n = be 1 (n / 256) ++ be 1 n from be_add 1 1 n]
theorem be4 (n : Nat) (L : List UInt8) : ((L ++ be 2 (n / 65536)) ++ be 1 (n / 256)) ++ be 1 n = L ++ be 4 n := by
  rw [be2, List.append_assoc, ← show be 4 n = be 2 (n / 65536) ++ be 2 n from be_add 2 2 n]
theorem be8 (n : Nat) (L : List UInt8) : (((L ++ be 4 (n / 4294967296)) ++ be 2 (n / 65536)) ++ be 1 (n / 256)) ++ be 1 n = L ++ be 8 n := by
  rw [be4, List.append_assoc, ← show be 8 n = be 4 (n / 4294967296) ++ be 4 n from be_add 4 4 n]

theorem len_step {L : List UInt8} {a : Nat} (m n : Nat) (h : L.length ≤ a) : (L ++ be m n).length ≤ a + m := by rw [List.length_append, be_length]; omega

/-- A writer lies in block p; it has written L. -/
structure IsWr (w : World) (p : Nat) (v : Value) (L : List UInt8) : Prop where
  cell : w.heap[p]? = some (.cells #[v] 162 (0, 0))
  own : w.ownsRow 0 5 1 v L.length (L.map u8v)
  ne : v.ownBlock ≠ some p

/-- What a method of a writer leaves: what it has written, and that nothing but its own memory has turned. -/
structure WrTo (p : Nat) (w w' : World) (v v' : Value) (L : List UInt8) : Prop where
  is : IsWr w' p v' L
  fr : Fr (fun k => k = p ∨ v.ownBlock = some k) w w'
  went : Went w v v'

theorem IsWr.lt {w : World} {p : Nat} {v : Value} {L : List UInt8} (h : IsWr w p v L) : p < w.heap.size := lt_of_block h.cell
theorem IsWr.kept {S : Nat → Prop} {w w' : World} {p : Nat} {v : Value} {L : List UInt8} (h : IsWr w p v L) (hf : Fr S w w') (hp : ¬ S p) (ho : ∀ g, v.ownBlock = some g → ¬ S g) : IsWr w' p v L :=
  ⟨hf.heapAt h.cell hp, hf.ownsRow h.own ho, h.ne⟩

theorem WrTo.trans {p : Nat} {w w1 w2 : World} {v v1 v2 : Value} {L1 L2 : List UInt8} (h : WrTo p w w1 v v1 L1) (k : WrTo p w1 w2 v1 v2 L2) : WrTo p w w2 v v2 L2 :=
  ⟨k.is, h.fr.then k.fr (fun _ hi e => e.imp id (fun e => h.went.old hi e)), h.went.trans k.went h.fr.size⟩

theorem Tryz.infoU8 : (Tryz.prog.info? 5).map (fun i => (i.zero, i.size, i.bytes)) = some (some (.int .u8 0), 1, 1) := by kernel_rfl

/-- An append of a row of new bytes to the writer's, and the store of what comes of it. -/
theorem wr_step {w w1 : World} {p : Nat} {v v1 : Value} {L : List UInt8} {m : Nat} {C : List Value} {B : List UInt8} (o : Obj) (h : IsWr w p v L) (hC : C = B.map u8v) (hm : m = B.length)
    (hown : w1.ownsRow 0 5 1 v1 (L.length + m) (L.map u8v ++ C)) (hg : (w.alloc o).grownBy w1 v.ownBlock) (hw : v1.ownBlock = v.ownBlock ∨ v1.ownBlock = some (w.alloc o).heap.size) :
    WrTo p w (w1.setCell ⟨p, 0, none⟩ v1) v v1 (L ++ B) := by
  have hp := h.lt
  have hne : v1.ownBlock ≠ some p := by
    rcases hw with hw | hw
    · rw [hw]; exact h.ne
    · rw [hw]; intro e; have := Option.some.inj e; simp at this; omega
  have hcell : w1.heap[p]? = some (.cells #[v] 162 (0, 0)) := by
    rw [hg.block p (by simp; omega) (fun e => h.ne e.symm), Below.heap_alloc _ _ _ hp]; exact h.cell
  have hfr : Fr (fun k => k = p ∨ v.ownBlock = some k) w w1 := ((Fr.refl _ w).alloc o).grown hg (fun k _ e => .inr e)
  subst hC hm
  refine ⟨⟨one_setCell hcell, ?_, hne⟩, hfr.setCell _ (fun _ => .inl rfl) _, ?_⟩
  · have := ownsRow_setCell_other hown (a := ⟨p, 0, none⟩) hne v1
    rw [List.length_append, List.map_append]; exact this
  · rcases hw with hw | hw
    · exact .inl hw
    · exact .inr ⟨_, hw, by simp⟩

theorem wr_cell {w w1 : World} {p : Nat} {v : Value} {L : List UInt8} {o : Obj} (h : IsWr w p v L) (hg : (w.alloc o).grownBy w1 v.ownBlock) : w1.heap[p]? = some (.cells #[v] 162 (0, 0)) := by
  have hp := h.lt
  rw [hg.block p (by simp; omega) (fun e => h.ne e.symm), Below.heap_alloc _ _ _ hp]; exact h.cell

/-- A string's bytes behind the writer's. -/
theorem wr_str {w w1 : World} {p : Nat} {v v1 : Value} {L : List UInt8} {s : ByteArray} (h : IsWr w p v L)
    (hown : w1.ownsRow 0 5 1 v1 (L.length + s.size) (L.map u8v ++ Lib.strCells s)) (hg : w.grownBy w1 v.ownBlock) (hw : Went w v v1) :
    WrTo p w (w1.setCell ⟨p, 0, none⟩ v1) v v1 (L ++ s.data.toList) := by
  have hp := h.lt
  have hne : v1.ownBlock ≠ some p := fun e => h.ne (hw.old hp e)
  have hcell : w1.heap[p]? = some (.cells #[v] 162 (0, 0)) := by
    rw [hg.block p hp (fun e => h.ne e.symm)]; exact h.cell
  have hfr : Fr (fun k => k = p ∨ v.ownBlock = some k) w w1 := (Fr.refl _ w).grown hg (fun k _ e => .inr e)
  refine ⟨⟨one_setCell hcell, ?_, hne⟩, hfr.setCell _ (fun _ => .inl rfl) _, hw⟩
  have := ownsRow_setCell_other hown (a := ⟨p, 0, none⟩) hne v1
  rw [List.length_append, List.map_append, size_toList]; exact this

set_option maxRecDepth 100000 in
set_option maxHeartbeats 4000000 in
theorem fixed1 (n : Nat) (p : Nat) (v : Value) (L : List UInt8) (w : World) (h : IsWr w p v L) (hL : L.length ≤ 1073741824) :
    Calls Tryz.prog 145 #[.pointer (some ⟨p, 0, none⟩), .int .u64 (n : Int), .int .i64 1] w fun e w' => e = .returned (.tuple #[]) ∧ ∃ v', WrTo p w w' v v' (L ++ be 1 n) := by
  have hc := cell_of_one h.cell
  have hf := free_of_one h.cell
  have H := Lib.hid h
  have hlt := h.lt
  obtain ⟨i0, hi, hz0, hz1, hz2⟩ := info_parts Tryz.infoU8
  have HI := Lib.hid hi
  have HZ0 := Lib.hid hz0
  have HZ1 := Lib.hid hz1
  have HZ2 := Lib.hid hz2
  clear h hi hz0 hz1 hz2
  have tok1 : True := trivial
  go_enter Tryz.func145, Tryz.ntmps145
  go_wp2_with (first
    | (at_builtin; have _t := tok1; refine wpList_append_own_at _ rfl _ _ 121 rfl 0 5 i0 (.int .u8 0) 1 1 Tryz.underlying121 HI.out HZ0.out HZ1.out HZ2.out rfl (by decide) _ _ _ rfl (H.out.own.alloc _) ⟨w.heap.size, 0, none⟩ 1 1 [.int .u8 ((n : Int) % 256)] rfl rfl (cells_new rfl (by simp)) (by simp [Value.oneCell']) (by unfold maxLen; omega) (by omega) (Nat.zero_le _) ?_; intro v1 w1 hown1 hg1 _ hw1; obtain ⟨a1, n1, c1, rfl⟩ := own_shape hown1; have hc1 := cell_of_one (wr_cell H.out hg1); have hf1 := free_of_one (wr_cell H.out hg1); have H1 := Lib.hid (wr_step _ H.out (be_cells1 n) (be_length 1 n).symm hown1 hg1 hw1); have hl1 := len_step 1 n hL; clear tok1))
  go_end0
  exact ⟨rfl, _, H1.out⟩

set_option maxRecDepth 100000 in
set_option maxHeartbeats 4000000 in
theorem fixed2 (n : Nat) (p : Nat) (v : Value) (L : List UInt8) (w : World) (h : IsWr w p v L) (hL : L.length ≤ 1073741824) :
    Calls Tryz.prog 145 #[.pointer (some ⟨p, 0, none⟩), .int .u64 (n : Int), .int .i64 2] w fun e w' => e = .returned (.tuple #[]) ∧ ∃ v', WrTo p w w' v v' (L ++ be 2 n) := by
  have hc := cell_of_one h.cell
  have hf := free_of_one h.cell
  have H := Lib.hid h
  have hlt := h.lt
  obtain ⟨i0, hi, hz0, hz1, hz2⟩ := info_parts Tryz.infoU8
  have HI := Lib.hid hi
  have HZ0 := Lib.hid hz0
  have HZ1 := Lib.hid hz1
  have HZ2 := Lib.hid hz2
  clear h hi hz0 hz1 hz2
  have tok1 : True := trivial
  have tok2 : True := trivial
  go_enter Tryz.func145, Tryz.ntmps145
  go_wp2_with (first
    | (at_builtin; have _t := tok1; refine wpList_append_own_at _ rfl _ _ 121 rfl 0 5 i0 (.int .u8 0) 1 1 Tryz.underlying121 HI.out HZ0.out HZ1.out HZ2.out rfl (by decide) _ _ _ rfl (H.out.own.alloc _) ⟨w.heap.size, 0, none⟩ 1 1 [.int .u8 ((n : Int) / 256 % 256)] rfl rfl (cells_new rfl (by simp)) (by simp [Value.oneCell']) (by unfold maxLen; omega) (by omega) (Nat.zero_le _) ?_; intro v1 w1 hown1 hg1 _ hw1; obtain ⟨a1, n1, c1, rfl⟩ := own_shape hown1; have hc1 := cell_of_one (wr_cell H.out hg1); have hf1 := free_of_one (wr_cell H.out hg1); have H1 := Lib.hid (wr_step _ H.out (be_cells1b n) (be_length 1 (n / 256)).symm hown1 hg1 hw1); have hl1 := len_step 1 (n / 256) hL; clear tok1)
    | (at_builtin; have _t := tok2; refine wpList_append_own_at _ rfl _ _ 121 rfl 0 5 i0 (.int .u8 0) 1 1 Tryz.underlying121 HI.out HZ0.out HZ1.out HZ2.out rfl (by decide) _ _ _ rfl (H1.out.is.own.alloc _) ⟨w1.heap.size, 0, none⟩ 1 1 [.int .u8 ((n : Int) % 256)] rfl rfl (cells_new rfl (by simp)) (by simp [Value.oneCell']) (by unfold maxLen; omega) (by omega) (Nat.zero_le _) ?_; intro v2 w2 hown2 hg2 _ hw2; obtain ⟨a2, n2, c2, rfl⟩ := own_shape hown2; have hc2 := cell_of_one (wr_cell H1.out.is hg2); have hf2 := free_of_one (wr_cell H1.out.is hg2); have H2 := Lib.hid (wr_step _ H1.out.is (be_cells1 n) (be_length 1 n).symm hown2 hg2 hw2); have hl2 := len_step 1 n hl1; clear tok2))
  go_end0
  exact ⟨rfl, _, be2 n L ▸ (H1.out).trans H2.out⟩

set_option maxRecDepth 100000 in
set_option maxHeartbeats 4000000 in
theorem fixed4 (n : Nat) (p : Nat) (v : Value) (L : List UInt8) (w : World) (h : IsWr w p v L) (hL : L.length ≤ 1073741824) :
    Calls Tryz.prog 145 #[.pointer (some ⟨p, 0, none⟩), .int .u64 (n : Int), .int .i64 4] w fun e w' => e = .returned (.tuple #[]) ∧ ∃ v', WrTo p w w' v v' (L ++ be 4 n) := by
  have hc := cell_of_one h.cell
  have hf := free_of_one h.cell
  have H := Lib.hid h
  have hlt := h.lt
  obtain ⟨i0, hi, hz0, hz1, hz2⟩ := info_parts Tryz.infoU8
  have HI := Lib.hid hi
  have HZ0 := Lib.hid hz0
  have HZ1 := Lib.hid hz1
  have HZ2 := Lib.hid hz2
  clear h hi hz0 hz1 hz2
  have tok1 : True := trivial
  have tok2 : True := trivial
  have tok3 : True := trivial
  go_enter Tryz.func145, Tryz.ntmps145
  go_wp2_with (first
    | (at_builtin; have _t := tok1; refine wpList_append_own_at _ rfl _ _ 121 rfl 0 5 i0 (.int .u8 0) 1 1 Tryz.underlying121 HI.out HZ0.out HZ1.out HZ2.out rfl (by decide) _ _ _ rfl (H.out.own.alloc _) ⟨w.heap.size, 0, none⟩ 2 2 [.int .u8 ((n : Int) / 16777216 % 256), .int .u8 ((n : Int) / 65536 % 256)] rfl rfl (cells_new rfl (by simp)) (by simp [Value.oneCell']) (by unfold maxLen; omega) (by omega) (Nat.zero_le _) ?_; intro v1 w1 hown1 hg1 _ hw1; obtain ⟨a1, n1, c1, rfl⟩ := own_shape hown1; have hc1 := cell_of_one (wr_cell H.out hg1); have hf1 := free_of_one (wr_cell H.out hg1); have H1 := Lib.hid (wr_step _ H.out (be_cells2 n) (be_length 2 (n / 65536)).symm hown1 hg1 hw1); have hl1 := len_step 2 (n / 65536) hL; clear tok1)
    | (at_builtin; have _t := tok2; refine wpList_append_own_at _ rfl _ _ 121 rfl 0 5 i0 (.int .u8 0) 1 1 Tryz.underlying121 HI.out HZ0.out HZ1.out HZ2.out rfl (by decide) _ _ _ rfl (H1.out.is.own.alloc _) ⟨w1.heap.size, 0, none⟩ 1 1 [.int .u8 ((n : Int) / 256 % 256)] rfl rfl (cells_new rfl (by simp)) (by simp [Value.oneCell']) (by unfold maxLen; omega) (by omega) (Nat.zero_le _) ?_; intro v2 w2 hown2 hg2 _ hw2; obtain ⟨a2, n2, c2, rfl⟩ := own_shape hown2; have hc2 := cell_of_one (wr_cell H1.out.is hg2); have hf2 := free_of_one (wr_cell H1.out.is hg2); have H2 := Lib.hid (wr_step _ H1.out.is (be_cells1b n) (be_length 1 (n / 256)).symm hown2 hg2 hw2); have hl2 := len_step 1 (n / 256) hl1; clear tok2)
    | (at_builtin; have _t := tok3; refine wpList_append_own_at _ rfl _ _ 121 rfl 0 5 i0 (.int .u8 0) 1 1 Tryz.underlying121 HI.out HZ0.out HZ1.out HZ2.out rfl (by decide) _ _ _ rfl (H2.out.is.own.alloc _) ⟨w2.heap.size, 0, none⟩ 1 1 [.int .u8 ((n : Int) % 256)] rfl rfl (cells_new rfl (by simp)) (by simp [Value.oneCell']) (by unfold maxLen; omega) (by omega) (Nat.zero_le _) ?_; intro v3 w3 hown3 hg3 _ hw3; obtain ⟨a3, n3, c3, rfl⟩ := own_shape hown3; have hc3 := cell_of_one (wr_cell H2.out.is hg3); have hf3 := free_of_one (wr_cell H2.out.is hg3); have H3 := Lib.hid (wr_step _ H2.out.is (be_cells1 n) (be_length 1 n).symm hown3 hg3 hw3); have hl3 := len_step 1 n hl2; clear tok3))
  go_end0
  exact ⟨rfl, _, be4 n L ▸ ((H1.out).trans H2.out).trans H3.out⟩

set_option maxRecDepth 100000 in
set_option maxHeartbeats 4000000 in
theorem fixed8 (n : Nat) (p : Nat) (v : Value) (L : List UInt8) (w : World) (hn : n < 18446744073709551616) (h : IsWr w p v L) (hL : L.length ≤ 1073741824) :
    Calls Tryz.prog 145 #[.pointer (some ⟨p, 0, none⟩), .int .u64 (n : Int), .int .i64 8] w fun e w' => e = .returned (.tuple #[]) ∧ ∃ v', WrTo p w w' v v' (L ++ be 8 n) := by
  have HC4 := Lib.hid (be_cells4 n hn)
  have hc := cell_of_one h.cell
  have hf := free_of_one h.cell
  have H := Lib.hid h
  have hlt := h.lt
  obtain ⟨i0, hi, hz0, hz1, hz2⟩ := info_parts Tryz.infoU8
  have HI := Lib.hid hi
  have HZ0 := Lib.hid hz0
  have HZ1 := Lib.hid hz1
  have HZ2 := Lib.hid hz2
  clear h hi hz0 hz1 hz2
  have tok1 : True := trivial
  have tok2 : True := trivial
  have tok3 : True := trivial
  have tok4 : True := trivial
  go_enter Tryz.func145, Tryz.ntmps145
  go_wp2_with (first
    | (at_builtin; have _t := tok1; refine wpList_append_own_at _ rfl _ _ 121 rfl 0 5 i0 (.int .u8 0) 1 1 Tryz.underlying121 HI.out HZ0.out HZ1.out HZ2.out rfl (by decide) _ _ _ rfl (H.out.own.alloc _) ⟨w.heap.size, 0, none⟩ 4 4 [.int .u8 ((n : Int) / 72057594037927936), .int .u8 ((n : Int) / 281474976710656 % 256), .int .u8 ((n : Int) / 1099511627776 % 256), .int .u8 ((n : Int) / 4294967296 % 256)] rfl rfl (cells_new rfl (by simp)) (by simp [Value.oneCell']) (by unfold maxLen; omega) (by omega) (Nat.zero_le _) ?_; intro v1 w1 hown1 hg1 _ hw1; obtain ⟨a1, n1, c1, rfl⟩ := own_shape hown1; have hc1 := cell_of_one (wr_cell H.out hg1); have hf1 := free_of_one (wr_cell H.out hg1); have H1 := Lib.hid (wr_step _ H.out HC4.out (be_length 4 (n / 4294967296)).symm hown1 hg1 hw1); have hl1 := len_step 4 (n / 4294967296) hL; clear tok1)
    | (at_builtin; have _t := tok2; refine wpList_append_own_at _ rfl _ _ 121 rfl 0 5 i0 (.int .u8 0) 1 1 Tryz.underlying121 HI.out HZ0.out HZ1.out HZ2.out rfl (by decide) _ _ _ rfl (H1.out.is.own.alloc _) ⟨w1.heap.size, 0, none⟩ 2 2 [.int .u8 ((n : Int) / 16777216 % 256), .int .u8 ((n : Int) / 65536 % 256)] rfl rfl (cells_new rfl (by simp)) (by simp [Value.oneCell']) (by unfold maxLen; omega) (by omega) (Nat.zero_le _) ?_; intro v2 w2 hown2 hg2 _ hw2; obtain ⟨a2, n2, c2, rfl⟩ := own_shape hown2; have hc2 := cell_of_one (wr_cell H1.out.is hg2); have hf2 := free_of_one (wr_cell H1.out.is hg2); have H2 := Lib.hid (wr_step _ H1.out.is (be_cells2 n) (be_length 2 (n / 65536)).symm hown2 hg2 hw2); have hl2 := len_step 2 (n / 65536) hl1; clear tok2)
    | (at_builtin; have _t := tok3; refine wpList_append_own_at _ rfl _ _ 121 rfl 0 5 i0 (.int .u8 0) 1 1 Tryz.underlying121 HI.out HZ0.out HZ1.out HZ2.out rfl (by decide) _ _ _ rfl (H2.out.is.own.alloc _) ⟨w2.heap.size, 0, none⟩ 1 1 [.int .u8 ((n : Int) / 256 % 256)] rfl rfl (cells_new rfl (by simp)) (by simp [Value.oneCell']) (by unfold maxLen; omega) (by omega) (Nat.zero_le _) ?_; intro v3 w3 hown3 hg3 _ hw3; obtain ⟨a3, n3, c3, rfl⟩ := own_shape hown3; have hc3 := cell_of_one (wr_cell H2.out.is hg3); have hf3 := free_of_one (wr_cell H2.out.is hg3); have H3 := Lib.hid (wr_step _ H2.out.is (be_cells1b n) (be_length 1 (n / 256)).symm hown3 hg3 hw3); have hl3 := len_step 1 (n / 256) hl2; clear tok3)
    | (at_builtin; have _t := tok4; refine wpList_append_own_at _ rfl _ _ 121 rfl 0 5 i0 (.int .u8 0) 1 1 Tryz.underlying121 HI.out HZ0.out HZ1.out HZ2.out rfl (by decide) _ _ _ rfl (H3.out.is.own.alloc _) ⟨w3.heap.size, 0, none⟩ 1 1 [.int .u8 ((n : Int) % 256)] rfl rfl (cells_new rfl (by simp)) (by simp [Value.oneCell']) (by unfold maxLen; omega) (by omega) (Nat.zero_le _) ?_; intro v4 w4 hown4 hg4 _ hw4; obtain ⟨a4, n4, c4, rfl⟩ := own_shape hown4; have hc4 := cell_of_one (wr_cell H3.out.is hg4); have hf4 := free_of_one (wr_cell H3.out.is hg4); have H4 := Lib.hid (wr_step _ H3.out.is (be_cells1 n) (be_length 1 n).symm hown4 hg4 hw4); have hl4 := len_step 1 n hl3; clear tok4))
  go_end0
  exact ⟨rfl, _, be8 n L ▸ (((H1.out).trans H2.out).trans H3.out).trans H4.out⟩

set_option maxHeartbeats 400000 in
theorem wr_u64 (n : Nat) (p : Nat) (v : Value) (L : List UInt8) (w : World) (hn : n < 18446744073709551616) (h : IsWr w p v L) (hL : L.length ≤ 1073741824) :
    Calls Tryz.prog 110 #[.pointer (some ⟨p, 0, none⟩), .int .u64 (n : Int)] w fun e w' => e = .returned (.tuple #[]) ∧ ∃ v', WrTo p w w' v v' (L ++ be 8 n) := by
  have H := Lib.hid h
  clear h
  go_enter Tryz.func110, Tryz.ntmps110
  go_wp2_with fail
  refine (fixed8 n p v L _ hn H.out hL).mono ?_
  rintro e w1 ⟨rfl, h1⟩
  have H1 := Lib.hid h1
  clear h1
  go_wp2
  go_end0
  exact ⟨rfl, H1.out⟩

set_option maxHeartbeats 400000 in
theorem wr_u16 (n : Nat) (p : Nat) (v : Value) (L : List UInt8) (w : World) (hn : n < 65536) (h : IsWr w p v L) (hL : L.length ≤ 1073741824) :
    Calls Tryz.prog 140 #[.pointer (some ⟨p, 0, none⟩), .int .u16 (n : Int)] w fun e w' => e = .returned (.tuple #[]) ∧ ∃ v', WrTo p w w' v v' (L ++ be 2 n) := by
  have H := Lib.hid h
  clear h
  go_enter Tryz.func140, Tryz.ntmps140
  go_wp2_with fail
  refine (fixed2 n p v L _ H.out hL).mono ?_
  rintro e w1 ⟨rfl, h1⟩
  have H1 := Lib.hid h1
  clear h1
  go_wp2
  go_end0
  exact ⟨rfl, H1.out⟩

set_option maxHeartbeats 1000000 in
theorem wr_raw (s : ByteArray) (p : Nat) (v : Value) (L : List UInt8) (w : World) (h : IsWr w p v L) (hL : L.length + s.size ≤ 140737488355328) :
    Calls Tryz.prog 114 #[.pointer (some ⟨p, 0, none⟩), .string s] w fun e w' => e = .returned (.tuple #[]) ∧ ∃ v', WrTo p w w' v v' (L ++ s.data.toList) := by
  have hc := cell_of_one h.cell
  have hf := free_of_one h.cell
  have H := Lib.hid h
  have hlt := h.lt
  obtain ⟨i0, hi, hz0, hz1, hz2⟩ := info_parts Tryz.infoU8
  have HI := Lib.hid hi
  have HZ0 := Lib.hid hz0
  have HZ1 := Lib.hid hz1
  have HZ2 := Lib.hid hz2
  clear h hi hz0 hz1 hz2
  go_enter Tryz.func114, Tryz.ntmps114
  go_wp2_with (at_builtin; refine wpList_append_str_at _ rfl _ _ 121 9 rfl 5 i0 Tryz.underlying121 Tryz.underlying9 HI.out HZ0.out HZ1.out HZ2.out v L.length _ rfl H.out.own s rfl (by unfold maxLen; omega) (by omega) ?_; intro v1 w1 hown1 hg1 hw1; have HW := Lib.hid hw1; clear hw1; obtain ⟨a1, n1, c1, rfl⟩ := own_shape hown1; have hc1 := cell_of_one ((hg1.block p hlt (fun e => H.out.ne e.symm)).trans H.out.cell); have hf1 := free_of_one ((hg1.block p hlt (fun e => H.out.ne e.symm)).trans H.out.cell))
  go_end0
  exact ⟨rfl, _, wr_str H.out hown1 hg1 HW.out⟩

/-- The bytes of an owned row lie in memory. -/
theorem own_conv {w : World} {v : Value} {L : List UInt8} (h : w.ownsRow 0 5 1 v L.length (L.map u8v)) : (convert 121 9 v).run Tryz.prog w = .ok (.string ⟨L.toArray⟩) w := by
  rcases h.2 with ⟨hv, hn⟩ | ⟨g, cap, cur, hv, _⟩
  · have : L = [] := List.eq_nil_of_length_eq_zero hn
    subst hv this
    rw [run_convert_bytes_nil (P := Tryz.prog) w 121 5 Tryz.underlying121 Tryz.underlying5 0 0 9 Tryz.underlying9]
    rfl
  · subst hv
    refine conv_bytes w _ _ _ Tryz.underlying121 Tryz.underlying5 Tryz.underlying9 g 0 L.length cap L rfl (fun i hi => ?_)
    rw [Nat.zero_add, h.cellAt i (by omega)]
    simp [hi]

set_option maxHeartbeats 400000 in
theorem wr_bytes (p : Nat) (v : Value) (L : List UInt8) (w : World) (h : IsWr w p v L) :
    Calls Tryz.prog 113 #[.pointer (some ⟨p, 0, none⟩)] w fun e w' => ∃ r : ByteArray, r.data.toList = L ∧ e = .returned (.string r) ∧ w = w' := by
  have hc := cell_of_one h.cell
  have hconv := own_conv h.own
  obtain ⟨a, n, c, rfl⟩ := own_shape h.own
  obtain ⟨q, hq, eq⟩ := str_ex L
  rw [eq] at hconv
  have HQ := Lib.hid hq
  clear hq eq h
  go_enter Tryz.func113, Tryz.ntmps113
  go_wp2
  go_ret
  exact ⟨q, HQ.out, rfl, rfl⟩

end Go.Proofs.YtcdjckdbcffgdaaGreatDoor
