/- The walks of wire.Writer's U8, Short, Text, Len. -/
import Derived.Test.YteikdcobpfohcaaGreatDoorMFa
import Derived.Test.YteikdcobpfohcaaGreatDoorMDm
import Derived.Test.YteikdcobpfohcaaGreatDoorMkDk11
namespace Go.Proofs.YteikdcobpfohcaaGreatDoor
open Go.RowKit

set_option maxHeartbeats 400000 in
theorem wr_u8 (n : Nat) (p : Nat) (v : Value) (L : List UInt8) (w : World) (hn : n < 256) (h : IsWr w p v L) (hL : L.length ≤ 1073741824) :
    Calls Tryz.prog 173 #[.pointer (some ⟨p, 0, none⟩), .int .u8 (n : Int)] w fun e w' => e = .returned (.tuple #[]) ∧ ∃ v', WrTo p w w' v v' (L ++ [UInt8.ofNat n]) := by
  have H := Lib.hid h
  have HB := Lib.hid (be_one n hn)
  clear h
  go_enter Tryz.func173, Tryz.ntmps173
  go_wp2_with fail
  refine (fixed1 n p v L _ H.out hL).mono ?_
  rintro e w1 ⟨rfl, h1⟩
  have H1 := Lib.hid h1
  clear h1
  go_wp2
  go_end0
  exact ⟨rfl, by have := H1.out; rw [HB.out] at this; exact this⟩

set_option maxRecDepth 100000 in
set_option maxHeartbeats 2000000 in
theorem wr_short (n : Nat) (p : Nat) (v : Value) (L : List UInt8) (w : World) (hn : n < 18446744073709551616) (h : IsWr w p v L) (hL : L.length + 10 ≤ 1073741824) :
    Calls Tryz.prog 223 #[.pointer (some ⟨p, 0, none⟩), .int .u64 (n : Int)] w fun e w' => e = .returned (.tuple #[]) ∧ ∃ v', WrTo p w w' v v' (L ++ shortB n) := by
  have H := Lib.hid h
  have hl10 := short_len64 n hn
  clear h
  go_enter Tryz.func223, Tryz.ntmps223
  go_wp2
  go_loopw [1] (fun x wr => ∃ (m : Nat) (v1 : Value) (L1 : List UInt8), x = .int .u64 (m : Int) ∧ m < 18446744073709551616 ∧ Hid (WrTo p w wr v v1 L1) ∧ Hid (L1 ++ shortB m = L ++ shortB n)) (fun x _ => (intOf x).toNat)
  case atStart => exact ⟨n, v, L, rfl, hn, Lib.hid ⟨H.out, Fr.refl _ _, Went.refl _ _⟩, Lib.hid rfl⟩
  case round =>
    obtain ⟨m, v1, L1, rfl, hm, HW, HE⟩ := hrel
    have hl1 : L1.length ≤ 1073741824 := by
      have := congrArg List.length HE.out
      rw [List.length_append, List.length_append] at this
      omega
    by_cases hs : m < 128
    · have HF := Lib.hid (show L1 ++ [UInt8.ofNat m] = L ++ shortB n from by rw [← HE.out, short_small hs])
      have hmm : (m : Int) % 256 = (m : Int) := by omega
      go_wp2_with fail
      try rw [hmm]
      refine (wr_u8 m p v1 L1 wr (by omega) HW.out.is hl1).mono ?_
      rintro e w1 ⟨rfl, v2, h2⟩
      have H2 := Lib.hid (HW.out.trans h2)
      clear h2
      go_wp2
      go_end0
      exact ⟨rfl, v2, by rw [← HF.out]; exact H2.out⟩
    · have HO := Lib.hid (or_more m)
      have HG := Lib.hid (short_go HE.out hs)
      go_wp2_with fail
      rw [HO.out]
      refine (wr_u8 (m % 128 + 128) p v1 L1 wr (by omega) HW.out.is hl1).mono ?_
      rintro e w1 ⟨rfl, v2, h2⟩
      have H2 := Lib.hid (HW.out.trans h2)
      clear h2
      go_wp2
      go_roundw
      case rel => exact ⟨m / 128, v2, _, by go_num, by omega, H2, HG⟩
      case measure => simp [intOf]; omega

set_option maxHeartbeats 1000000 in
theorem wr_text (s : ByteArray) (p : Nat) (v : Value) (L : List UInt8) (w : World) (h : IsWr w p v L) (hL : L.length + 10 + s.size ≤ 1073741824) :
    Calls Tryz.prog 165 #[.pointer (some ⟨p, 0, none⟩), .string s] w fun e w' => e = .returned (.tuple #[]) ∧ ∃ v', WrTo p w w' v v' (L ++ (shortB s.size ++ s.data.toList)) := by
  have H := Lib.hid h
  have hl10 := short_len64 s.size (by omega)
  clear h
  go_enter Tryz.func165, Tryz.ntmps165
  go_wp2_with fail
  refine (wr_short s.size p v L w (by omega) H.out (by omega)).mono ?_
  rintro e w1 ⟨rfl, v1, h1⟩
  have H1 := Lib.hid h1
  clear h1
  go_wp2_with fail
  refine (wr_raw s p v1 _ w1 H1.out.is (by rw [List.length_append]; omega)).mono ?_
  rintro e w2 ⟨rfl, v2, h2⟩
  have H2 := Lib.hid (H1.out.trans h2)
  clear h2
  go_wp2
  go_end0
  exact ⟨rfl, v2, by rw [← List.append_assoc]; exact H2.out⟩

set_option maxHeartbeats 400000 in
theorem wr_len (p : Nat) (v : Value) (L : List UInt8) (w : World) (h : IsWr w p v L) :
    Calls Tryz.prog 102 #[.pointer (some ⟨p, 0, none⟩)] w fun e w' => e = .returned (.int .i64 (L.length : Int)) ∧ w = w' := by
  have H := Lib.hid h
  clear h
  go_enter Tryz.func102, Tryz.ntmps102
  go_wp2_with fail
  refine (wr_bytes p v L w H.out).mono ?_
  rintro e w1 ⟨r, hr, rfl, rfl⟩
  have hz : r.size = L.length := size_of_list hr
  have HR := Lib.hid hz
  clear hr hz
  go_wp2
  go_ret
  exact ⟨by show Ending.returned (.int .i64 (r.size : Int)) = _; rw [HR.out], rfl⟩
end Go.Proofs.YteikdcobpfohcaaGreatDoor

/- A writer that is new. -/
namespace Go.Proofs.YteikdcobpfohcaaGreatDoor
open Go.RowKit

theorem WrTo.alloc {p : Nat} {w w1 : World} {v v1 : Value} {L : List UInt8} (h : WrTo p w w1 v v1 L) (o : Obj) : WrTo p w (w1.alloc o) v v1 L :=
  ⟨h.is.kept (S := fun _ => False) ((Fr.refl _ _).alloc o) (fun hf => hf) (fun _ _ hf => hf), h.fr.alloc o, h.went⟩
theorem WrTo.start {p : Nat} {w : World} {v : Value} {L : List UInt8} (h : IsWr w p v L) : WrTo p w w v v L := ⟨h, Fr.refl _ _, Went.refl _ _⟩
theorem IsWr.fresh (w : World) : IsWr (w.alloc (.cells #[.slice none 0 0] 122)) w.heap.size (.slice none 0 0) [] := ⟨heap_alloc_new _ _, World.ownsRow_nil _ _ _ _, by simp [Value.ownBlock]⟩

theorem WrTo.cell {p : Nat} {wa wr : World} {v : Value} {L : List UInt8} (h : WrTo p wa wr (.slice none 0 0) v L) {b o : Nat} {x : Value} (hb : wa.cell? ⟨b, o, none⟩ = some x) (hne : b ≠ p) : wr.cell? ⟨b, o, none⟩ = some x :=
  h.fr.cellAt hb (fun k => k.elim hne (by simp [Value.ownBlock]))

end Go.Proofs.YteikdcobpfohcaaGreatDoor

/- The walk of snap.numbers. -/
namespace Go.Proofs.YteikdcobpfohcaaGreatDoor
open Go.RowKit

def u64n (n : Int) : Nat := (n % 18446744073709551616).toNat
def numsB (ns : List Int) : List UInt8 := ns.flatMap (fun n => shortB (u64n n))
theorem numsB_snoc (ns : List Int) (n : Int) : numsB (ns ++ [n]) = numsB ns ++ shortB (u64n n) := by unfold numsB; simp
theorem numsB_len (ns : List Int) : (numsB ns).length ≤ 10 * ns.length := by
  unfold numsB
  induction ns with
  | nil => simp
  | cons n r ih =>
    rw [List.flatMap_cons, List.length_append, List.length_cons]
    have := short_len64 (u64n n) (by unfold u64n; omega)
    omega
theorem IsWr.lto {w : World} {p : Nat} {v : Value} {L : List UInt8} (h : IsWr w p v L) {g : Nat} (hg : v.ownBlock = some g) : g < w.heap.size := by
  rcases h.own.2 with ⟨rfl, _⟩ | ⟨k, cap, cur, rfl, _, hh, _⟩
  · cases hg
  · cases hg; exact lt_of_block hh
/-- What lay where a writer does not. -/
theorem WrTo.cellx {p : Nat} {w w1 : World} {v v1 : Value} {L : List UInt8} (h : WrTo p w w1 v v1 L) {b o : Nat} {x : Value} (hb : w.cell? ⟨b, o, none⟩ = some x) (hne : b ≠ p) (hv : v.ownBlock ≠ some b) : w1.cell? ⟨b, o, none⟩ = some x :=
  h.fr.cellAt hb (by rintro (e | e); exact hne e; exact hv e)

set_option maxRecDepth 100000 in
set_option maxHeartbeats 1000000 in
theorem snnumbers (sv : Value) (ns : List Int) (p : Nat) (v : Value) (L : List UInt8) (w : World) (h : IsWr w p v L) (hs : IntsAt w sv ns) (hsb : ∀ g, sv.ownBlock = some g → g ≠ p ∧ v.ownBlock ≠ some g) (hn : ns.length ≤ 100) (hL : L.length ≤ 1000000) :
    Calls Tryz.prog 162 #[.pointer (some ⟨p, 0, none⟩), sv] w fun e w' => e = .returned (.tuple #[]) ∧ ∃ v', WrTo p w w' v v' (L ++ numsB ns) := by
  obtain ⟨a, c, rfl, _, hc⟩ := hs
  have hrow : ∀ i (hi : i < ns.length), ∃ g o, a = some ⟨g, o, none⟩ ∧ w.cell? ⟨g, o + i, none⟩ = some (.int .i64 ns[i]) := fun i hi => by
    rcases hc with rfl | ⟨b, o, rfl, hcell⟩
    · simp at hi
    · exact ⟨b, o, rfl, hcell i hi⟩
  have H := Lib.hid h
  have HR := Lib.hid hrow
  have HSB := Lib.hid hsb
  clear h hc hrow hsb
  go_enter Tryz.func162, Tryz.ntmps162
  go_wp2
  go_loopw [8] (fun i wr => ∃ (k : Nat) (v1 : Value), i = .int .i64 k ∧ k ≤ ns.length ∧ Hid (WrTo p w wr v v1 (L ++ numsB (ns.take k)))) (fun i _ => ns.length - (intOf i).toNat)
  case atStart => exact ⟨0, v, rfl, by omega, Lib.hid (by rw [List.take_zero]; show WrTo p w w v v (L ++ []); rw [List.append_nil]; exact ⟨H.out, Fr.refl _ _, Went.refl _ _⟩)⟩
  case round =>
    obtain ⟨k, v1, rfl, hk, HW⟩ := hrel
    by_cases hlt : k < ns.length
    · obtain ⟨g, o, rfl, hcell⟩ := HR.out k hlt
      have hgb := HSB.out g rfl
      have hcell := HW.out.cellx hcell hgb.1 hgb.2
      have hlen : (L ++ numsB (ns.take k)).length + 10 ≤ 1073741824 := by
        have := numsB_len (ns.take k)
        rw [List.length_take] at this
        rw [List.length_append]; omega
      obtain ⟨z, hz⟩ : ∃ z, z = ns[k] := ⟨_, rfl⟩
      rw [← hz] at hcell
      have HST := Lib.hid (show numsB (ns.take (k + 1)) = numsB (ns.take k) ++ shortB (u64n z) from by rw [List.take_succ_eq_append_getElem hlt, numsB_snoc, hz])
      have hu : IntKind.u64.wrap z = ((u64n z : Nat) : Int) := by unfold u64n; rw [IntKind.wrap_u64]; omega
      clear hz hgb
      go_wp2_with fail
      try rw [hu]
      refine (wr_short (u64n z) p v1 _ wr (by unfold u64n; omega) HW.out.is hlen).mono ?_
      rintro e w1 ⟨rfl, v2, h2⟩
      have H2 := Lib.hid (HW.out.trans h2)
      clear h2
      go_wp2
      go_roundw
      case rel => exact ⟨k + 1, v2, by go_num, by omega, Lib.hid (by rw [HST.out, ← List.append_assoc]; exact H2.out)⟩
      case measure => simp [intOf]; omega
    · have hkl : k = ns.length := by omega
      have HE := Lib.hid (show WrTo p w wr v v1 (L ++ numsB ns) from by have := HW.out; rwa [hkl, List.take_length] at this)
      go_wp2
      go_end0
      exact ⟨rfl, v1, HE.out⟩
end Go.Proofs.YteikdcobpfohcaaGreatDoor
