/- Segments' names: what is read of them, plain. -/
import Derived.Test.YtljmekdilhphaaaGreatDoorNm
import Derived.Lib.ParseIntB
import Derived.Lib.IndexMore
namespace Go.Proofs.YtljmekdilhphaaaGreatDoor
open Go.RowKit

def isDig (c : UInt8) : Prop := 48 ≤ c.toNat ∧ c.toNat ≤ 57
theorem dig_of (d : Nat) (h : d < 10) : (UInt8.ofNat (48 + d)).toNat = 48 + d := by simp; omega
theorem parse_dec (M : Nat) (hM : M ≤ 18446744073709551615) : ∀ u, ∀ r : List UInt8, u ≤ M → Lib.parseUintM M 0 (Lib.decDigits u ++ r) = Lib.parseUintM M u r := by
  intro u
  induction u using Nat.strongRecOn with
  | _ u ih =>
    intro r hu
    rw [Lib.decDigits]
    split
    · rename_i h
      have := dig_of u h
      simp only [List.singleton_append, Lib.parseUintM, this]
      rw [if_pos (by omega), if_neg (by omega), if_neg (by omega)]
      congr 1; omega
    · rename_i h
      have := dig_of (u % 10) (by omega)
      rw [List.append_assoc]
      rw [ih (u / 10) (by omega) _ (by omega)]
      simp only [List.singleton_append, Lib.parseUintM, this]
      rw [if_pos (by omega), if_neg (by omega), if_neg (by omega)]
      congr 1; omega
theorem parse_zeros (M : Nat) (r : List UInt8) (k : Nat) : Lib.parseUintM M 0 (zeros k ++ r) = Lib.parseUintM M 0 r := by
  induction k with
  | zero => rfl
  | succ k ih =>
    unfold zeros at ih ⊢
    rw [List.replicate_succ, List.cons_append, Lib.parseUintM]
    rw [if_pos (by decide), if_neg (by decide), if_neg (by show ¬ M < 0 * 10 + (48 - 48); omega)]
    exact ih

theorem dec_digs (u : Nat) : ∀ c ∈ Lib.decDigits u, isDig c := by
  induction u using Nat.strongRecOn with
  | _ u ih =>
    rw [Lib.decDigits]
    split
    · rename_i h
      intro c hc
      rw [List.mem_singleton] at hc
      subst hc
      unfold isDig; rw [dig_of u h]; omega
    · rename_i h
      intro c hc
      rcases List.mem_append.1 hc with hc | hc
      · exact ih (u / 10) (by omega) c hc
      · rw [List.mem_singleton] at hc
        subst hc
        unfold isDig; rw [dig_of (u % 10) (by omega)]; omega
theorem dec_len (u d : Nat) (h : u < 10 ^ (d + 1)) : (Lib.decDigits u).length ≤ d + 1 := by
  induction d generalizing u with
  | zero => rw [Lib.decDigits, dif_pos (by omega)]; simp
  | succ d ih =>
    rw [Lib.decDigits]
    split
    · simp
    · have := ih (u / 10) (by rw [Nat.pow_succ] at h; omega)
      rw [List.length_append, List.length_singleton]; omega
theorem dec_pos (u : Nat) : Lib.decDigits u ≠ [] := by
  rw [Lib.decDigits]; split <;> simp

theorem padded_nat (u d : Nat) : padded (u : Int) d = zeros (d - (Lib.decDigits u).length) ++ Lib.decDigits u := by
  unfold padded; rw [Lib.itoa_nonneg]
theorem padded_digs (u d : Nat) : ∀ c ∈ padded (u : Int) d, isDig c := by
  intro c hc
  rw [padded_nat] at hc
  rcases List.mem_append.1 hc with hc | hc
  · unfold zeros at hc
    rw [List.mem_replicate] at hc
    rw [hc.2]; unfold isDig; decide
  · exact dec_digs u c hc
theorem padded_ne (u d : Nat) : padded (u : Int) d ≠ [] := by
  rw [padded_nat]; intro e; exact dec_pos u (List.append_eq_nil_iff.1 e).2
theorem padded_len (u d : Nat) (h : u < 10 ^ (d + 1)) : (padded (u : Int) (d + 1)).length = d + 1 := by
  have := dec_len u d h
  rw [padded_nat, List.length_append]; unfold zeros; rw [List.length_replicate]; omega

theorem parse_padded (u d : Nat) (hu : u < 9223372036854775808) : Lib.parseIntB 64 (padded (u : Int) d) = .ok (u : Int) := by
  have hp : Lib.parseUintM (2 ^ 64 - 1) 0 (padded (u : Int) d) = .ok u := by
    rw [padded_nat, parse_zeros]
    have := parse_dec (2 ^ 64 - 1) (by decide) u [] (by omega)
    rw [List.append_nil] at this
    rw [this]; rfl
  have hne := padded_ne u d
  have hd := padded_digs u d
  cases e : padded (u : Int) d with
  | nil => exact absurd e hne
  | cons c r =>
    rw [e] at hp hd
    have hc := hd c (by simp)
    unfold isDig at hc
    unfold Lib.parseIntB
    simp only
    rw [if_neg (by omega)]
    unfold Lib.parseUintB
    rw [if_neg (by simp), hp]
    simp only
    rw [if_neg (by rintro ⟨_, h⟩; omega), if_neg (by rintro ⟨h, _⟩; omega), if_neg (by omega)]

theorem index_dash (A B : List UInt8) (h : ∀ c ∈ A, isDig c) : Lib.index (A ++ 45 :: B) [45] = A.length := by
  refine Lib.index_first (by simp) ?_ ?_
  · unfold Lib.occAt; simp
  · intro j hj
    unfold Lib.occAt
    rw [List.drop_append_of_le_length (by omega)]
    have e : A.drop j = A[j] :: A.drop (j + 1) := (List.getElem_cons_drop ..).symm
    rw [e, List.cons_append]
    have := h A[j] (List.getElem_mem _)
    unfold isDig at this
    show ((45 : UInt8) == A[j] && List.isPrefixOf [] _) = false
    rw [show ((45 : UInt8) == A[j]) = false from by
      rw [beq_eq_false_iff_ne]; intro e2; rw [← e2] at this; exact absurd this (by decide)]
    rfl
theorem cut_dash (A B : List UInt8) (h : ∀ c ∈ A, isDig c) : Lib.cut (A ++ 45 :: B) [45] = (A, B, true) := by
  unfold Lib.cut
  rw [index_dash A B h, if_pos (by omega)]
  simp

theorem segName_eq (g f : Nat) (hg : g ≤ 99999999) (hf : f ≤ 1048576) : segName (g : Int) (f : Int) = 115 :: (padded (g : Int) 8 ++ 45 :: padded (f : Int) 10) := by
  unfold segName; rw [if_pos (by omega)]
theorem trim_s (r : List UInt8) : Lib.trimPrefix (115 :: r) [115] = r := by
  unfold Lib.trimPrefix Lib.hasPrefix; simp
/-- No two segments' names are alike. -/
theorem segName_inj {g f g2 f2 : Nat} (hg : g ≤ 99999999) (hf : f ≤ 1048576) (hg2 : g2 ≤ 99999999) (hf2 : f2 ≤ 1048576) (h : segName (g : Int) (f : Int) = segName (g2 : Int) (f2 : Int)) : g = g2 ∧ f = f2 := by
  rw [segName_eq g f hg hf, segName_eq g2 f2 hg2 hf2] at h
  have h := (List.cons.inj h).2
  have c1 := cut_dash _ (padded (f : Int) 10) (padded_digs g 8)
  have c2 := cut_dash _ (padded (f2 : Int) 10) (padded_digs g2 8)
  rw [h, c2] at c1
  simp only [Prod.mk.injEq] at c1
  have p1 := parse_padded g 8 (by omega)
  have p2 := parse_padded g2 8 (by omega)
  have q1 := parse_padded f 10 (by omega)
  have q2 := parse_padded f2 10 (by omega)
  rw [← c1.1, p2] at p1
  rw [← c1.2.1, q2] at q1
  simp only [Lib.NumEnd.ok.injEq] at p1 q1
  omega
theorem segName_len (g f : Nat) (hg : g ≤ 99999999) (hf : f ≤ 1048576) : (segName (g : Int) (f : Int)).length = 20 := by
  rw [segName_eq g f hg hf, List.length_cons, List.length_append, List.length_cons, padded_len g 7 (by omega), padded_len f 9 (by omega)]
end Go.Proofs.YtljmekdilhphaaaGreatDoor
