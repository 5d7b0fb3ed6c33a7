/- Short numbers, written, plainly. -/
import Derived.Test.YteikdcobpfohcaaGreatDoorMDm
namespace Go.Proofs.YteikdcobpfohcaaGreatDoor
open Go.RowKit

/-- A short number's bytes. -/
def shortB (n : Nat) : List UInt8 := if h : n < 128 then [UInt8.ofNat n] else UInt8.ofNat (n % 128 + 128) :: shortB (n / 128)
termination_by n
decreasing_by omega
theorem short_small {n : Nat} (h : n < 128) : shortB n = [UInt8.ofNat n] := by rw [shortB, dif_pos h]
theorem short_big {n : Nat} (h : ¬ n < 128) : shortB n = UInt8.ofNat (n % 128 + 128) :: shortB (n / 128) := by rw [shortB, dif_neg h]
theorem short_len (k n : Nat) (h : n < 128 ^ (k + 1)) : (shortB n).length ≤ k + 1 := by
  induction k generalizing n with
  | zero => rw [short_small (by omega)]; simp
  | succ k ih =>
    by_cases hs : n < 128
    · rw [short_small hs]; simp
    · rw [short_big hs, List.length_cons]
      have := ih (n / 128) (by rw [Nat.pow_succ] at h; omega)
      omega
theorem short_len64 (n : Nat) (h : n < 18446744073709551616) : (shortB n).length ≤ 10 := short_len 9 n (Nat.lt_of_lt_of_le h (by decide))
theorem be_one (n : Nat) (h : n < 256) : be 1 n = [UInt8.ofNat n] := by
  show [] ++ [UInt8.ofNat (n % 256)] = _
  rw [Nat.mod_eq_of_lt h]; rfl
theorem or_more (m : Nat) : bits .or .u8 ((m : Int) % 256) 128 = ((m % 128 + 128 : Nat) : Int) := by
  have h : ∀ r : Fin 256, bits .or .u8 ((r.val : Nat) : Int) 128 = ((r.val % 128 + 128 : Nat) : Int) := by decide +kernel
  have := h ⟨m % 256, Nat.mod_lt _ (by decide)⟩
  simp only at this
  rw [show ((m : Int) % 256) = ((m % 256 : Nat) : Int) from by omega, this]
  congr 2
  omega

theorem short_go {m : Nat} {L0 L1 : List UInt8} {n : Nat} (h : L1 ++ shortB m = L0 ++ shortB n) (hm : ¬ m < 128) : (L1 ++ [UInt8.ofNat (m % 128 + 128)]) ++ shortB (m / 128) = L0 ++ shortB n := by
  rw [← h, short_big hm]; simp

end Go.Proofs.YteikdcobpfohcaaGreatDoor

/- Short numbers, read, plainly. -/
namespace Go.Proofs.YteikdcobpfohcaaGreatDoor
open Go.RowKit

/-- A short number that is read, behind k bytes of it that say n; it began at frm. -/
def shortR (s : List UInt8) (most frm : Nat) : Nat → Nat → Nat → RdSt → Nat × RdSt
  | 0, _, _, st => (0, st)
  | f + 1, k, n, st =>
    if (st.take s 1).2.1 = false then (0, ⟨frm, 8, frm⟩)
    else if (k = 9 ∧ 1 < val (st.take s 1).1) ∨ (0 < k ∧ val (st.take s 1).1 = 0) then (0, ⟨frm, 4, frm⟩)
    else if val (st.take s 1).1 < 128 then (if most < n + val (st.take s 1).1 * 128 ^ k then (0, ⟨frm, 40, frm⟩) else (n + val (st.take s 1).1 * 128 ^ k, (st.take s 1).2.2))
    else shortR s most frm f (k + 1) (n + (val (st.take s 1).1 - 128) * 128 ^ k) (st.take s 1).2.2
def RdSt.short (st : RdSt) (s : List UInt8) (most : Nat) : Nat × RdSt := if st.e ≠ 0 then (0, st) else shortR s most st.at_ 10 0 0 st

theorem take_one {st : RdSt} {s r : List UInt8} {b : UInt8} (he : st.e = 0) (hs : s.drop st.at_ = b :: r) : st.take s 1 = ([b], true, ⟨st.at_ + 1, st.e, st.tow⟩) := by
  have hl : 1 ≤ s.length - st.at_ := by have := congrArg List.length hs; rw [List.length_drop, List.length_cons] at this; omega
  unfold RdSt.take
  rw [if_neg (fun h => h he), if_neg (by omega), hs]
  rfl
theorem drop_one {s r : List UInt8} {b : UInt8} {a : Nat} (hs : s.drop a = b :: r) : s.drop (a + 1) = r := by
  rw [← List.drop_drop, hs]; rfl
theorem val_one (b : UInt8) : val [b] = b.toNat := by simp [val]

theorem short_two {n k : Nat} (h : n * 128 ^ k < 18446744073709551616) (hk : k = 9) : n < 2 := by
  subst hk
  rw [show (128 : Nat) ^ 9 = 9223372036854775808 from by decide] at h
  omega
/-- What was written is read. -/
theorem shortR_back {s : List UInt8} {most frm : Nat} : ∀ (f k n0 n : Nat) (st : RdSt) (rest : List UInt8), st.e = 0 → k + f = 10 → n * 128 ^ k < 18446744073709551616 → n < 128 ^ f → (0 < k → 0 < n) → n0 + n * 128 ^ k ≤ most → s.drop st.at_ = shortB n ++ rest →
    shortR s most frm f k n0 st = (n0 + n * 128 ^ k, ⟨st.at_ + (shortB n).length, st.e, st.tow⟩)
  | 0, k, n0, n, st, rest, he, hk, h9, hn, h0, hm, hs => by
    have : n = 0 := by simpa using hn
    have := h0 (by omega)
    omega
  | f + 1, k, n0, n, st, rest, he, hk, h9, hn, h0, hm, hs => by
    by_cases hsm : n < 128
    · rw [short_small hsm] at hs ⊢
      have ht := take_one he (show s.drop st.at_ = UInt8.ofNat n :: rest from hs)
      have hb : (UInt8.ofNat n).toNat = n := by simp; omega
      rw [shortR, ht]
      simp only [val_one, hb]
      rw [if_neg (by decide), if_neg (by
        rintro (⟨h1, h2⟩ | ⟨h1, h2⟩)
        · have := short_two h9 h1; omega
        · have := h0 h1; omega), if_pos hsm, if_neg (by omega)]
      rfl
    · rw [short_big hsm] at hs ⊢
      have ht := take_one he (show s.drop st.at_ = UInt8.ofNat (n % 128 + 128) :: (shortB (n / 128) ++ rest) from hs)
      have hb : (UInt8.ofNat (n % 128 + 128)).toNat = n % 128 + 128 := by simp; omega
      have hk8 : k ≠ 9 := fun e => by have := short_two h9 e; omega
      have hpow : n * 128 ^ k = n % 128 * 128 ^ k + n / 128 * 128 ^ (k + 1) := by
        have e := Nat.div_add_mod n 128
        conv => lhs; rw [← e]
        rw [Nat.pow_succ, Nat.add_mul]
        rw [show 128 * (n / 128) * 128 ^ k = n / 128 * (128 ^ k * 128) from by rw [Nat.mul_comm 128, Nat.mul_assoc, Nat.mul_comm 128]]
        omega
      rw [shortR, ht]
      simp only [val_one, hb]
      rw [if_neg (by decide), if_neg (by
        rintro (⟨h1, h2⟩ | ⟨h1, h2⟩)
        · exact hk8 h1
        · omega), if_neg (by omega), Nat.add_sub_cancel]
      rw [shortR_back f (k + 1) (n0 + n % 128 * 128 ^ k) (n / 128) ⟨st.at_ + 1, st.e, st.tow⟩ rest he (by omega) (by rw [hpow] at h9; omega) (by rw [Nat.pow_succ] at hn; omega) (fun _ => by omega) (by rw [hpow] at hm; omega) (drop_one hs)]
      rw [hpow, List.length_cons]
      simp only [Prod.mk.injEq, RdSt.mk.injEq]
      exact ⟨by omega, by omega, trivial, trivial⟩
theorem short_back {s : List UInt8} {most n : Nat} {st : RdSt} {rest : List UInt8} (he : st.e = 0) (hn : n < 18446744073709551616) (hm : n ≤ most) (hs : s.drop st.at_ = shortB n ++ rest) :
    st.short s most = (n, ⟨st.at_ + (shortB n).length, st.e, st.tow⟩) := by
  unfold RdSt.short
  rw [if_neg (fun h => h he), shortR_back 10 0 0 n st rest he rfl (by simpa using hn) (Nat.lt_of_lt_of_le hn (by decide)) (fun h => absurd h (Nat.lt_irrefl _)) (by simpa using hm) hs]
  simp
end Go.Proofs.YteikdcobpfohcaaGreatDoor
