/- The walks of snap's reader: upTo, long. -/
import Derived.Test.YteikdcobpfohcaaGreatDoorMkRdT
namespace Go.Proofs.YteikdcobpfohcaaGreatDoor
open Go.RowKit

/-- A number below 128 that stands next. -/
theorem short_at {s : List UInt8} {k most : Nat} {b : UInt8} (h : s[k]? = some b) (hb : b.toNat < 128) (hm : b.toNat ≤ most) : (⟨k, 0, 0⟩ : RdSt).short s most = (b.toNat, ⟨k + 1, 0, 0⟩) := by
  have hlt : k < s.length := by
    rw [List.getElem?_eq_some_iff] at h
    exact h.1
  have hg : s[k] = b := by
    rw [List.getElem?_eq_some_iff] at h
    exact h.2
  have hs : s.drop (⟨k, 0, 0⟩ : RdSt).at_ = shortB b.toNat ++ s.drop (k + 1) := by
    rw [short_small hb]
    show s.drop k = _
    rw [List.drop_eq_getElem_cons hlt, hg]
    simp
  have := short_back (st := ⟨k, 0, 0⟩) (most := most) rfl (by omega) hm hs
  rw [this, short_small hb]
  rfl

/-- A reader of a body, in block q; its reader of bytes, in block p. -/
structure RdrAt (w : World) (q p : Nat) (s : ByteArray) (st : RdSt) : Prop where
  cell : w.heap[q]? = some (.cells #[.pointer (some ⟨p, 0, none⟩), .int .i64 (s.size : Int), .bool false] 157 (0, 0))
  rd : IsRd w p s st
  ne : q ≠ p
theorem RdrAt.kept {S : Nat → Prop} {w w' : World} {q p : Nat} {s : ByteArray} {st : RdSt} (h : RdrAt w q p s st) (hf : Fr S w w') (hq : ¬ S q) (hp : ¬ S p) : RdrAt w' q p s st := ⟨hf.heapAt h.cell hq, h.rd.kept hf hp, h.ne⟩
theorem RdrAt.pure {w w' : World} {q p : Nat} {s : ByteArray} {st : RdSt} (h : RdrAt w q p s st) (hb : Below w.heap.size w w') : RdrAt w' q p s st := h.kept (Fr.pure (S := fun _ => False) hb) (fun h => h) (fun h => h)
theorem RdrAt.cs {w : World} {q p : Nat} {s : ByteArray} {st : RdSt} (h : RdrAt w q p s st) : w.cell? ⟨q, 0, none⟩ = some (.pointer (some ⟨p, 0, none⟩)) ∧ w.cell? ⟨q, 1, none⟩ = some (.int .i64 (s.size : Int)) ∧ w.cell? ⟨q, 2, none⟩ = some (.bool false) := by
  refine ⟨?_, ?_, ?_⟩ <;> rw [cell_of_row w q _ _ _ _ h.cell] <;> rfl
theorem RdrAt.size {w : World} {q p : Nat} {s : ByteArray} {st : RdSt} (h : RdrAt w q p s st) : w.cell? ⟨q, 1, none⟩ = some (.int .i64 (s.size : Int)) := h.cs.2.1

set_option maxHeartbeats 400000 in
theorem snr_upto (w : World) (q p : Nat) (s : ByteArray) (st : RdSt) (h : RdrAt w q p s st) (n : Nat) (hn : n ≤ 9223372036854775807) :
    Calls Tryz.prog 140 #[.pointer (some ⟨q, 0, none⟩), .int .i64 (n : Int)] w fun e w' => e = .returned (.int .i64 (wrap64 ((st.short s.data.toList n).1 : Int))) ∧ RdrAt w' q p s (st.short s.data.toList n).2 ∧ Fr (fun k => k = p) w w' := by
  obtain ⟨c0, c1, c2⟩ := h.cs
  have H := Lib.hid h
  clear h
  go_enter Tryz.func140, Tryz.ntmps140
  go_wp2_with fail
  refine (rd_short w p s st H.out.rd n).mono ?_
  rintro e w1 ⟨rfl, h1, hf1⟩
  have H1 := Lib.hid (show RdrAt w1 q p s (st.short s.data.toList n).2 from ⟨hf1.heapAt H.out.cell H.out.ne, h1, H.out.ne⟩)
  clear h1
  go_wp2
  go_ret
  exact ⟨rfl, H1.out, hf1⟩

set_option maxHeartbeats 400000 in
theorem snr_long (w : World) (q p : Nat) (s : ByteArray) (st : RdSt) (h : RdrAt w q p s st) :
    Calls Tryz.prog 131 #[.pointer (some ⟨q, 0, none⟩)] w fun e w' => e = .returned (.int .i64 (wrap64 ((st.short s.data.toList 4611686018427387904).1 : Int))) ∧ RdrAt w' q p s (st.short s.data.toList 4611686018427387904).2 ∧ Fr (fun k => k = p) w w' := by
  obtain ⟨c0, c1, c2⟩ := h.cs
  have H := Lib.hid h
  clear h
  go_enter Tryz.func131, Tryz.ntmps131
  go_wp2_with fail
  refine (rd_short w p s st H.out.rd 4611686018427387904).mono ?_
  rintro e w1 ⟨rfl, h1, hf1⟩
  have H1 := Lib.hid (show RdrAt w1 q p s (st.short s.data.toList 4611686018427387904).2 from ⟨hf1.heapAt H.out.cell H.out.ne, h1, H.out.ne⟩)
  clear h1
  go_wp2
  go_ret
  exact ⟨rfl, H1.out, hf1⟩
/-- A number below 128 that stands next is read. -/
theorem snr_byte (w : World) (q p : Nat) (s : ByteArray) (k : Nat) (b : UInt8) (h : RdrAt w q p s ⟨k, 0, 0⟩) (h0 : s.data.toList[k]? = some b) (hb : b.toNat < 128) :
    Calls Tryz.prog 131 #[.pointer (some ⟨q, 0, none⟩)] w fun e w' => e = .returned (.int .i64 (b.toNat : Int)) ∧ RdrAt w' q p s ⟨k + 1, 0, 0⟩ ∧ Fr (fun k => k = p) w w' := by
  refine (snr_long w q p s _ h).mono ?_
  rw [short_at h0 hb (by omega)]
  have hw : wrap64 (b.toNat : Int) = (b.toNat : Int) := by
    have h9 : ((b.toNat : Nat) : Int) < 128 := by omega
    unfold wrap64
    omega
  rw [hw]
  exact fun e w1 h => h
theorem wrap_zero : wrap64 (((0 : UInt8).toNat : Nat) : Int) = 0 := by
  rw [show (((0 : UInt8).toNat : Nat) : Int) = 0 from rfl]
  unfold wrap64
  omega
end Go.Proofs.YteikdcobpfohcaaGreatDoor
