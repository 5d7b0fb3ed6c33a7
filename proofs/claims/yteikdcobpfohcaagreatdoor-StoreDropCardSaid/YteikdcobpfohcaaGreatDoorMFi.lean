/- Plain: numbers' bytes, written and read. -/
import Derived.Test.YteikdcobpfohcaaGreatDoorMDm
import Derived.Deep.QuietTactic
import Derived.BigQuiet
import Derived.Test.YteikdcobpfohcaaGreatDoorChecked
import Derived.Test.YteikdcobpfohcaaGreatDoorCrcP
import Derived.Test.YteikdcobpfohcaaGreatDoorMAa
import Derived.Deep.LoopGhost
import Derived.Deep.Light
import Derived.Laws.CopyOwn
namespace Go.Proofs.YteikdcobpfohcaaGreatDoor
open Go.RowKit

theorem val_append (a b : List UInt8) : val (a ++ b) = val a * 256 ^ b.length + val b := by
  induction b using List.rec generalizing a with
  | nil => simp [val]
  | cons x b ih =>
    have e : a ++ x :: b = (a ++ [x]) ++ b := by simp
    have e2 : val (x :: b) = x.toNat * 256 ^ b.length + val b := by
      have := ih [x]
      simp only [List.singleton_append] at this
      rw [this]; simp [val]
    rw [e, ih, val_snoc, e2, List.length_cons, Nat.pow_succ, Nat.add_mul, Nat.mul_assoc, Nat.mul_comm 256, Nat.add_assoc]

theorem val_be (k n : Nat) (h : n < 256 ^ k) : val (be k n) = n := by
  induction k generalizing n with
  | zero => simp at h; subst h; rfl
  | succ k ih =>
    simp only [be]
    rw [val_snoc, ih (n / 256) (by rw [Nat.pow_succ] at h; omega)]
    have : (UInt8.ofNat (n % 256)).toNat = n % 256 := by simp
    rw [this]; omega

theorem be_val (l : List UInt8) : be l.length (val l) = l := by
  suffices h : ∀ (n : Nat) (l : List UInt8), l.length = n → be n (val l) = l from h _ l rfl
  intro n
  induction n with
  | zero => intro l h; rw [List.eq_nil_of_length_eq_zero h]; rfl
  | succ n ih =>
    intro l h
    have hne : l ≠ [] := by intro e; subst e; simp at h
    have e := List.dropLast_concat_getLast hne
    generalize l.dropLast = a at e
    generalize l.getLast hne = x at e
    subst e
    have hx := x.toNat_lt
    simp only [be]
    rw [val_snoc, show (val a * 256 + x.toNat) / 256 = val a from by omega, ih a (by simpa using h), show (val a * 256 + x.toNat) % 256 = x.toNat from by omega]
    simp

theorem fixed_at {st : RdSt} {t rest : List UInt8} {k n : Nat} (he : st.e = 0) (ht : t.drop st.at_ = be k n ++ rest) (hn : n < 256 ^ k) :
    st.fixed t k = (n, ⟨st.at_ + k, 0, st.tow⟩) ∧ t.drop (st.at_ + k) = rest := by
  have hl : k ≤ t.length - st.at_ := by
    have := congrArg List.length ht
    rw [List.length_drop, List.length_append, be_length] at this; omega
  constructor
  · unfold RdSt.fixed RdSt.take
    rw [if_neg (fun h => h he), if_neg (by omega), ht, he]
    simp only
    rw [List.take_left' (be_length k n), val_be k n hn]
  · rw [← List.drop_drop, ht, List.drop_left' (be_length k n)]

/-- Where a read of bytes went well, these were the bytes. -/
theorem fixed_back {st st' : RdSt} {t : List UInt8} {k n : Nat} (h : st.fixed t k = (n, st')) (he : st'.e = 0) :
    st.e = 0 ∧ st'.at_ = st.at_ + k ∧ t.drop st.at_ = be k n ++ t.drop (st.at_ + k) ∧ n < 256 ^ k := by
  unfold RdSt.fixed at h
  simp only [Prod.mk.injEq] at h
  obtain ⟨h1, h2⟩ := h
  unfold RdSt.take at h1 h2
  split at h2
  · rename_i hne; simp only at h2; subst h2; exact absurd he hne
  · rename_i hne
    have hne : st.e = 0 := Classical.not_not.1 hne
    split at h2
    · simp only at h2; subst h2; exact absurd he (by simp)
    · rename_i hlt
      simp only at h2
      rw [if_neg (fun hx => hx hne), if_neg hlt] at h1
      simp only at h1
      have hl : ((t.drop st.at_).take k).length = k := by rw [List.length_take, List.length_drop]; omega
      refine ⟨hne, by rw [← h2], ?_, ?_⟩
      · have := be_val ((t.drop st.at_).take k)
        rw [hl, h1] at this
        rw [this, ← List.drop_drop, List.take_append_drop]
      · rw [← h1]; have := val_lt ((t.drop st.at_).take k); rwa [hl] at this
end Go.Proofs.YteikdcobpfohcaaGreatDoor

/- What wire.Reader reads, with a name. -/
namespace Go.Proofs.YteikdcobpfohcaaGreatDoor
open Go.RowKit

theorem rd_u64x (w : World) (p : Nat) (s : ByteArray) (st : RdSt) (h : IsRd w p s st) :
    Calls Tryz.prog 56 #[.pointer (some ⟨p, 0, none⟩)] w fun e w' => ∃ (n : Nat) (st' : RdSt), st.fixed s.data.toList 8 = (n, st') ∧ e = .returned (.int .u64 (n : Int)) ∧ IsRd w' p s st' ∧ Fr (fun k => k = p) w w' :=
  (rd_u64 w p s st h).mono fun _ _ ⟨he, h1, h2⟩ => ⟨_, _, rfl, he, h1, h2⟩
theorem rd_rawx (w : World) (p : Nat) (s : ByteArray) (st : RdSt) (h : IsRd w p s st) (n : Nat) (hn : n ≤ 1099511627776) :
    Calls Tryz.prog 55 #[.pointer (some ⟨p, 0, none⟩), .int .i64 (n : Int)] w fun e w' => ∃ (r : ByteArray) (st' : RdSt), r.data.toList = (st.take s.data.toList n).1 ∧ (st.take s.data.toList n).2.2 = st' ∧ e = .returned (.string r) ∧ IsRd w' p s st' ∧ Fr (fun k => k = p) w w' :=
  (rd_raw w p s st h n hn).mono fun _ _ ⟨r, hr, he, h1, h2⟩ => ⟨r, _, hr, rfl, he, h1, h2⟩

theorem fixed_lt8 (st : RdSt) (s : List UInt8) {n : Nat} {st' : RdSt} (h : st.fixed s 8 = (n, st')) : n < 18446744073709551616 := by
  have h1 : n = val (st.take s 8).1 := by have := congrArg Prod.fst h; exact this.symm
  rw [h1]
  exact Nat.lt_of_lt_of_le (val_lt _) (Nat.pow_le_pow_right (by decide : 0 < 256) (take_len st s 8))

end Go.Proofs.YteikdcobpfohcaaGreatDoor

/- The walks of wire.Writer's U32 and wire.Reader's U32; what is read, with a name. -/
namespace Go.Proofs.YteikdcobpfohcaaGreatDoor
open Go.RowKit

set_option maxHeartbeats 400000 in
theorem wr_u32 (n : Nat) (p : Nat) (v : Value) (L : List UInt8) (w : World) (hn : n < 4294967296) (h : IsWr w p v L) (hL : L.length ≤ 1073741824) :
    Calls Tryz.prog 67 #[.pointer (some ⟨p, 0, none⟩), .int .u32 (n : Int)] w fun e w' => e = .returned (.tuple #[]) ∧ ∃ v', WrTo p w w' v v' (L ++ be 4 n) := by
  have H := Lib.hid h
  clear h
  go_enter Tryz.func67, Tryz.ntmps67
  go_wp2_with fail
  refine (fixed4 n p v L _ H.out hL).mono ?_
  rintro e w1 ⟨rfl, h1⟩
  have H1 := Lib.hid h1
  clear h1
  go_wp2
  go_end0
  exact ⟨rfl, H1.out⟩

theorem val_lt4 {l : List UInt8} (h : l.length ≤ 4) : val l < 4294967296 := by
  have h1 := val_lt l
  have h2 : 256 ^ l.length ≤ 256 ^ 4 := Nat.pow_le_pow_right (by decide) h
  exact Nat.lt_of_lt_of_le h1 h2

set_option maxHeartbeats 1000000 in
theorem rd_fixed32 (w : World) (p : Nat) (s : ByteArray) (st : RdSt) (h : IsRd w p s st) :
    Calls Tryz.prog 93 #[.pointer (some ⟨p, 0, none⟩), .int .i64 4] w fun e w' => e = .returned (.int .u32 ((st.fixed s.data.toList 4).1 : Int)) ∧ IsRd w' p s (st.fixed s.data.toList 4).2 ∧ Fr (fun k => k = p) w w' := by
  unfold RdSt.fixed
  have H := Lib.hid h
  clear h
  go_enter Tryz.func93, Tryz.ntmps93
  go_wp2_with fail
  refine (rd_take _ p s st H.out 4 (by omega)).mono ?_
  rintro e w1 ⟨r, hr, rfl, h1, hf1⟩
  have hrs : r.size ≤ 4 := by rw [size_of_list hr]; exact take_len st s.data.toList 4
  have HR := Lib.hid hr
  have H1 := Lib.hid h1
  clear hr h1
  go_wp2
  go_loop [7, 17] (fun v i => ∃ (j n : Nat), j ≤ r.size ∧ i = .int .i64 j ∧ v = .int .u64 (n : Int) ∧ n = val (r.data.toList.take j)) (fun _ i => r.size - (intOf i).toNat)
  case atStart => exact ⟨0, 0, by omega, rfl, rfl, rfl⟩
  case round =>
    obtain ⟨j, n, hj, rfl, rfl, hn⟩ := hrel
    by_cases hlt : j < r.size
    · have hb7 : n < 72057594037927936 := by rw [hn]; exact val_lt7 (by rw [List.length_take]; omega)
      have HO := Lib.hid (or_byte n r[j] hb7)
      have HN := Lib.hid hn
      clear hn
      go_wp2
      go_round
      case rel => exact ⟨j + 1, n * 256 + r[j].toNat, by omega, by go_num, by rw [HO.out], by rw [val_take_succ r j hlt, HN.out]⟩
      case measure => simp [intOf]; omega
    · have hb2 : n < 4294967296 := by rw [hn]; exact val_lt4 (by rw [List.length_take, size_toList]; omega)
      have HN := Lib.hid hn
      clear hn
      go_wp2
      go_ret
      exact ⟨by rw [← HR.out, HN.out, List.take_of_length_le (by rw [size_toList]; omega)]; rfl, H1.out, hf1⟩

set_option maxHeartbeats 400000 in
theorem rd_u32 (w : World) (p : Nat) (s : ByteArray) (st : RdSt) (h : IsRd w p s st) :
    Calls Tryz.prog 57 #[.pointer (some ⟨p, 0, none⟩)] w fun e w' => e = .returned (.int .u32 ((st.fixed s.data.toList 4).1 : Int)) ∧ IsRd w' p s (st.fixed s.data.toList 4).2 ∧ Fr (fun k => k = p) w w' := by
  have H := Lib.hid h
  clear h
  go_enter Tryz.func57, Tryz.ntmps57
  go_wp2_with fail
  refine (rd_fixed32 _ p s st H.out).mono ?_
  rintro e w1 ⟨rfl, h1, hf1⟩
  have H1 := Lib.hid h1
  clear h1
  go_wp2
  go_ret
  exact ⟨rfl, H1.out, hf1⟩
theorem fixed_lt4 (st : RdSt) (s : List UInt8) : (st.fixed s 4).1 < 4294967296 := val_lt4 (take_len st s 4)

theorem rd_u32x (w : World) (p : Nat) (s : ByteArray) (st : RdSt) (h : IsRd w p s st) :
    Calls Tryz.prog 57 #[.pointer (some ⟨p, 0, none⟩)] w fun e w' => ∃ (n : Nat) (st' : RdSt), st.fixed s.data.toList 4 = (n, st') ∧ n < 4294967296 ∧ e = .returned (.int .u32 (n : Int)) ∧ IsRd w' p s st' ∧ Fr (fun k => k = p) w w' :=
  (rd_u32 w p s st h).mono fun _ _ ⟨h1, h2, h3⟩ => ⟨_, _, rfl, fixed_lt4 _ _, h1, h2, h3⟩
end Go.Proofs.YteikdcobpfohcaaGreatDoor

/- The walk of crc.step. -/
namespace Go.Proofs.YteikdcobpfohcaaGreatDoor
open Go.RowKit

theorem step_bit (c : BitVec 32) : bits BinOp.and IntKind.u32 (c.toNat : Int) 1 = if c.getLsbD 0 then 1 else 0 := by
  have h := bits_and32 c 1#32
  rw [show ((1#32).toNat : Int) = 1 from rfl] at h
  rw [h]
  rw [BitVec.and_one_eq_setWidth_ofBool_getLsbD]
  cases c.getLsbD 0 <;> rfl

theorem step_xorp (c : BitVec 32) : bits BinOp.xor IntKind.u32 ((c.toNat : Int) / 2) 3988292384 = ((c >>> 1 ^^^ Crc.poly).toNat : Int) := by
  have h := bits_xor32 (c >>> 1) Crc.poly
  rw [shr_toNat] at h
  exact h

set_option maxHeartbeats 400000 in
theorem step_any (c : BitVec 32) (w : World) :
    Calls Tryz.prog 258 #[.int .u32 (c.toNat : Int)] w fun e w' => e = .returned (.int .u32 ((Crc.step c).toNat : Int)) ∧ w = w' := by
  have hb := step_bit c
  have HX := Lib.hid (step_xorp c)
  cases h0 : c.getLsbD 0
  · rw [h0] at hb
    have HS : Hid ((Crc.step c).toNat = (c >>> 1).toNat) := by unfold Crc.step; rw [h0]; rfl
    clear h0
    go_enter Tryz.func258, Tryz.ntmps258
    go_wp2
    go_ret
    exact ⟨ret_int (by rw [HS.out, shr_toNat]; rfl), rfl⟩
  · rw [h0] at hb
    have HS : Hid ((Crc.step c).toNat = (c >>> 1 ^^^ Crc.poly).toNat) := by unfold Crc.step; rw [h0]; rfl
    clear h0
    go_enter Tryz.func258, Tryz.ntmps258
    go_wp2
    go_ret
    exact ⟨ret_int (by rw [HS.out, HX.out]), rfl⟩
end Go.Proofs.YteikdcobpfohcaaGreatDoor

/- The walk of crc.Table: it makes the table, and turns nothing that was there. -/
namespace Go.Proofs.YteikdcobpfohcaaGreatDoor
open Go.RowKit

def u32v (c : BitVec 32) : Value := .int .u32 (c.toNat : Int)

/-- The cells of the table, as far as they are made. -/
def TabCells (k : Nat) (c : Array Value) : Prop := c.size = 256 ∧ ∀ i, i < k → c[i]? = some (u32v (Crc.tab (BitVec.ofNat 8 i)))

def TabRel (w : World) (v : Value) (wr : World) : Prop :=
  ∃ (k : Nat) (c : Array Value), k ≤ 256 ∧ v = .int .i64 k ∧ TabCells k c ∧ wr = (w.alloc (.cells Tryz.zeroCells303 303)).alloc (.cells c 303)

def TabRel2 (w : World) (k : Nat) (v : Value) (wr : World) : Prop :=
  ∃ (j : Nat) (c : Array Value) (x : BitVec 32), j ≤ 8 ∧ v = .int .i64 j ∧ TabCells k c ∧ c[k]? = some (u32v x) ∧ x = Crc.steps j (BitVec.ofNat 32 k) ∧ wr = (w.alloc (.cells Tryz.zeroCells303 303)).alloc (.cells c 303)

theorem tab_start {k : Nat} {c : Array Value} (hk : k < 256) (h : TabCells k c) : TabCells k (c.setIfInBounds k (.int .u32 (k : Int))) ∧ (c.setIfInBounds k (.int .u32 (k : Int)))[k]? = some (u32v (Crc.steps 0 (BitVec.ofNat 32 k))) := by
  obtain ⟨h1, h2⟩ := h
  refine ⟨⟨by simp [h1], fun i hi => ?_⟩, ?_⟩
  · rw [Array.getElem?_setIfInBounds_ne (by omega)]; exact h2 i hi
  · rw [Array.getElem?_setIfInBounds_self_of_lt (by omega)]
    simp [u32v, Crc.steps, BitVec.toNat_ofNat, Nat.mod_eq_of_lt (show k < 4294967296 from by omega)]

theorem tab_step {k j : Nat} {c : Array Value} {x : BitVec 32} (hk : k < 256) (h : TabCells k c) (hx : x = Crc.steps j (BitVec.ofNat 32 k)) :
    TabCells k (c.setIfInBounds k (.int .u32 ((Crc.step x).toNat : Int))) ∧ (c.setIfInBounds k (.int .u32 ((Crc.step x).toNat : Int)))[k]? = some (u32v (Crc.step x)) ∧ Crc.step x = Crc.steps (j + 1) (BitVec.ofNat 32 k) := by
  obtain ⟨h1, h2⟩ := h
  refine ⟨⟨by simp [h1], fun i hi => ?_⟩, ?_, ?_⟩
  · rw [Array.getElem?_setIfInBounds_ne (by omega)]; exact h2 i hi
  · rw [Array.getElem?_setIfInBounds_self_of_lt (by omega)]; rfl
  · rw [Crc.steps_succ', hx]

theorem tab_next {k : Nat} {c : Array Value} (hk : k < 256) (h : TabCells k c) (hx : c[k]? = some (u32v (Crc.steps 8 (BitVec.ofNat 32 k)))) : TabCells (k + 1) c := by
  refine ⟨h.1, fun i hi => ?_⟩
  by_cases e : i = k
  · subst e
    rw [hx]
    have : (BitVec.ofNat 8 i).zeroExtend 32 = BitVec.ofNat 32 i := by
      apply BitVec.eq_of_toNat_eq; simp; omega
    simp only [Crc.tab, this]
  · exact h.2 i (by omega)

theorem tab_one {c : Array Value} (h : TabCells 256 c) : c.all (·.oneCell') = true := by
  rw [Array.all_eq_true]
  intro i hi
  have h2 := h.2 i (by have := h.1; omega)
  rw [Array.getElem?_eq_getElem hi] at h2
  rw [Option.some.inj h2]; rfl

theorem Tryz.info256 : (Tryz.prog.info? 303).map (·.size) = some 256 := by kernel_rfl
theorem Tryz.zero256 : Tryz.zeroCells303.size = 256 := by kernel_rfl

set_option maxRecDepth 100000 in
set_option maxHeartbeats 800000 in
theorem table_any (w : World) :
    Calls Tryz.prog 225 #[] w fun e w' => ∃ c, TabCells 256 c ∧ e = .returned (.agg c) ∧ Below w.heap.size w w' := by
  go_enter Tryz.func225, Tryz.ntmps225
  go_wp2
  go_loopw [3] (fun v wr => TabRel w v wr) (fun v _ => 256 - (intOf v).toNat)
  case atStart => exact ⟨0, _, by omega, rfl, ⟨Tryz.zero256, fun i hi => by omega⟩, rfl⟩
  case round =>
    obtain ⟨k, c, hk, rfl, hc, rfl⟩ := hrel
    have HC := Lib.hid hc
    clear hc
    by_cases hlt : k < 256
    · obtain ⟨v0, hv0⟩ : ∃ v, c[k]? = some v := ⟨c[k]'(by rw [HC.out.1]; exact hlt), Array.getElem?_eq_getElem _⟩
      have hd4 : decide ((k : Int) < 256) = true := by rw [decide_eq_true_iff]; omega
      go_wp2
      go_loopw [10] (fun v wr => TabRel2 w k v wr) (fun v _ => 8 - (intOf v).toNat)
      case atStart => exact ⟨0, _, _, by omega, rfl, (tab_start hlt HC.out).1, (tab_start hlt HC.out).2, rfl, rfl⟩
      case round =>
        obtain ⟨j, c2, x, hj, rfl, hc2, hx, hxe, rfl⟩ := hrel
        have HC2 := Lib.hid hc2
        have HX := Lib.hid hx
        have HXE := Lib.hid hxe
        clear hc2 hxe
        unfold u32v at hx
        by_cases hlt2 : j < 8
        · go_wp2_with (go_at_call 258; refine (step_any x _).mono ?_; rintro e w' ⟨rfl, rfl⟩)
          go_roundw
          case rel =>
            have h := tab_step hlt HC2.out HXE.out
            exact ⟨j + 1, _, _, by omega, by go_num, h.1, h.2.1, h.2.2, rfl⟩
          case measure => simp [intOf]; omega
        · obtain rfl : j = 8 := by omega
          clear hx
          go_wp2
          go_roundw
          case rel => exact ⟨k + 1, _, by omega, by go_num, tab_next hlt HC2.out (by rw [← HXE.out]; exact HX.out), rfl⟩
          case measure => simp [intOf]; omega
    · obtain rfl : k = 256 := by omega
      have h1 := Lib.hid HC.out.1
      go_wp2_with (first
        | (with_reducible refine wpList_load_row rfl 303 _ rfl (w.heap.size + 1) rfl 303 c (0, 0) _ (heap_alloc2_new _ _ _) Tryz.underlying303 rfl (by rw [Tryz.info256, h1.out]) ?_)
        | (with_reducible refine wpList_store_row rfl 303 _ _ rfl w.heap.size c rfl rfl 303 Tryz.zeroCells303 (heap_alloc2_old _ _ _) (by rw [Tryz.info256, h1.out]) (by rw [Tryz.zero256, h1.out]) (tab_one HC.out) ?_))
      exact bodyPost_ret (v := .agg c) (results_cell_row Tryz.results225 _ _ w.heap.size 303 c (0, 0) _ rfl (setRow_heap _ _ _ _ _ _ (heap_alloc2_old _ _ _)) Tryz.underlying303 rfl (by rw [Tryz.info256, h1.out])) rfl ⟨c, HC.out, rfl, below_setRow (((Below.refl _ _).alloc (Nat.le_refl _) _).alloc (by simp) _) (Nat.le_refl _) _⟩
end Go.Proofs.YteikdcobpfohcaaGreatDoor
