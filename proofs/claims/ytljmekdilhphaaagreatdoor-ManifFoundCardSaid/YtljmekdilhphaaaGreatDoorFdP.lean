/- Where a batch is, plain: Find in a manifest that may be, and in one with a segment more. -/
import Derived.Test.YtljmekdilhphaaaGreatDoorWi
import Derived.Test.YtljmekdilhphaaaGreatDoorNdP
namespace Go.Proofs.YtljmekdilhphaaaGreatDoor
open Go.RowKit

/-- How many of the segments begin at q at most. -/
def upTo (q : Int) (l : Segs) : Nat := (l.takeWhile fun s => decide (s.2 ≤ q)).length
theorem segsOk_gt {g last : Int} {l : Segs} (h : segsOk g last l = true) : ∀ s ∈ l, last < s.2 := by
  induction l generalizing last with
  | nil => simp
  | cons s r ih =>
    obtain ⟨a, f⟩ := s
    simp only [segsOk, Bool.and_eq_true, decide_eq_true_eq] at h
    intro t ht
    rcases List.mem_cons.1 ht with rfl | ht
    · exact h.1.1.2
    · have := ih h.2 t ht; omega
theorem findGo_none {q : Int} {l : Segs} (h : ∀ s ∈ l, q < s.2) (k : Nat) (a : Int) : findGo q k a l = a := by
  induction l generalizing k a with
  | nil => rfl
  | cons s r ih =>
    have h1 := h s (by simp)
    show findGo q (k + 1) (if s.2 ≤ q then (k : Int) else a) r = a
    rw [if_neg (by omega), ih (fun t ht => h t (by simp [ht]))]
theorem findGo_up {g q : Int} {l : Segs} : ∀ {last : Int}, segsOk g last l = true → ∀ (k : Nat) (a : Int), findGo q k a l = if upTo q l = 0 then a else (k : Int) + (upTo q l : Int) - 1 := by
  induction l with
  | nil => intro _ _ k a; rfl
  | cons s r ih =>
    intro last h k a
    have h2 : segsOk g s.2 r = true := by simp only [segsOk, Bool.and_eq_true] at h; exact h.2
    show findGo q (k + 1) (if s.2 ≤ q then (k : Int) else a) r = _
    by_cases hs : s.2 ≤ q
    · have e : upTo q (s :: r) = upTo q r + 1 := by unfold upTo; rw [List.takeWhile_cons, show decide (s.2 ≤ q) = true from by simpa using hs]; simp
      rw [if_pos hs, ih h2, e, if_neg (show ¬ upTo q r + 1 = 0 by omega)]
      split <;> omega
    · have e : upTo q (s :: r) = 0 := by unfold upTo; rw [List.takeWhile_cons, show decide (s.2 ≤ q) = false from by simpa using hs]; rfl
      rw [if_neg hs, e, if_pos rfl]
      exact findGo_none (fun t ht => by have := segsOk_gt h2 t ht; omega) _ _
theorem may_segs {g : Int} {l : Segs} (h : mayB g l = true) : segsOk g (-1) l = true := by
  simp only [mayB, Bool.and_eq_true] at h; exact h.1.1.1.1
theorem find_up {g q : Int} {l : Segs} (h : mayB g l = true) : findB l q = (upTo q l : Int) - 1 := by
  unfold findB; rw [findGo_up (may_segs h)]; split <;> omega
theorem up_le (q : Int) (l : Segs) : upTo q l ≤ l.length := (List.takeWhile_sublist _).length_le
theorem up_lt {q : Int} {l : Segs} {i : Nat} (h : i < upTo q l) (hi : i < l.length) : l[i].2 ≤ q := by
  induction l generalizing i with
  | nil => simp at hi
  | cons s r ih =>
    unfold upTo at h ih
    rw [List.takeWhile_cons] at h
    split at h
    · rename_i hs
      cases i with
      | zero => simpa using hs
      | succ i => exact ih (by simpa using h) (by simpa using hi)
    · simp at h
theorem up_at {q : Int} {l : Segs} (h : upTo q l < l.length) : q < l[upTo q l].2 := by
  induction l with
  | nil => simp at h
  | cons s r ih =>
    by_cases hs : s.2 ≤ q
    · have e : upTo q (s :: r) = upTo q r + 1 := by unfold upTo; rw [List.takeWhile_cons, show decide (s.2 ≤ q) = true from by simpa using hs]; simp
      have h2 : upTo q r < r.length := by rw [e] at h; simpa using h
      have := ih h2
      simp only [e, List.getElem_cons_succ]; exact this
    · have e : upTo q (s :: r) = 0 := by unfold upTo; rw [List.takeWhile_cons, show decide (s.2 ≤ q) = false from by simpa using hs]; rfl
      simp only [e, List.getElem_cons_zero]; omega

theorem segsOk_snoc {g : Int} {l : Segs} (x y : Int) : ∀ (last : Int), segsOk g last l = true → segsOk g last (l ++ [(x, y)]) = (decide (0 ≤ x) && decide (x ≤ g) && decide ((l.getLast?.map (·.2)).getD last < y) && decide (y ≤ 1048576)) := by
  induction l with
  | nil => intro last _; simp [segsOk]; rfl
  | cons s r ih =>
    intro last h
    have h2 : segsOk g s.2 r = true := by simp only [segsOk, Bool.and_eq_true] at h; exact h.2
    have e : segsOk g last (s :: r ++ [(x, y)]) = segsOk g s.2 (r ++ [(x, y)]) := by
      show ((decide (0 ≤ s.1) && decide (s.1 ≤ g) && decide (last < s.2) && decide (s.2 ≤ 1048576)) && segsOk g s.2 (r ++ [(x, y)])) = _
      have h1 : (decide (0 ≤ s.1) && decide (s.1 ≤ g) && decide (last < s.2) && decide (s.2 ≤ 1048576)) = true := by simp only [segsOk, Bool.and_eq_true] at h; simp only [Bool.and_eq_true]; exact h.1
      rw [h1]; rfl
    rw [e, ih _ h2]
    cases r with
    | nil => rfl
    | cons t r => rw [List.getLast?_cons_cons]; cases hl : (t :: r).getLast? with
      | none => simp at hl
      | some u => rfl
/-- The last segment's first batch. -/
def lastF (l : Segs) : Int := (l.getLast?.map (·.2)).getD (-1)
theorem lastF_at {l : Segs} (h : 0 < l.length) : lastF l = (l[l.length - 1]'(by omega)).2 := by
  unfold lastF; rw [List.getLast?_eq_getElem?, List.getElem?_eq_getElem (by omega)]; rfl
theorem may_snoc {g : Int} {l : Segs} (h : mayB g l = true) (x y : Int) : mayB g (l ++ [(x, y)]) = true ↔ (0 ≤ x ∧ x ≤ g ∧ lastF l < y ∧ y ≤ 1048576 ∧ l.length < 64) := by
  obtain ⟨h1, h2, h3, h4, _⟩ := mayB_all h
  unfold mayB
  rw [segsOk_snoc x y _ (may_segs h)]
  simp only [Bool.and_eq_true, decide_eq_true_eq, List.length_append, List.length_singleton]
  unfold lastF
  constructor
  · rintro ⟨⟨⟨⟨⟨⟨⟨a, b⟩, c⟩, d⟩, _⟩, _⟩, _⟩, e⟩; exact ⟨a, b, c, d, by omega⟩
  · rintro ⟨a, b, c, d, e⟩; exact ⟨⟨⟨⟨⟨⟨⟨a, b⟩, c⟩, d⟩, h1⟩, h2⟩, by omega⟩, by omega⟩
theorem all_le_last {g last : Int} {l : Segs} (h : segsOk g last l = true) : ∀ s ∈ l, s.2 ≤ (l.getLast?.map (·.2)).getD last := by
  induction l generalizing last with
  | nil => simp
  | cons s r ih =>
    have h2 : segsOk g s.2 r = true := by simp only [segsOk, Bool.and_eq_true] at h; exact h.2
    intro t ht
    cases r with
    | nil => simp at ht; subst ht; simp
    | cons u r =>
      rw [List.getLast?_cons_cons]
      have hd : ((u :: r).getLast?.map (·.2)).getD last = ((u :: r).getLast?.map (·.2)).getD s.2 := by
        cases hl : (u :: r).getLast? with
        | none => simp at hl
        | some v => rfl
      rw [hd]
      rcases List.mem_cons.1 ht with rfl | ht
      · have h3 := ih h2 u (by simp)
        have h4 := segsOk_gt h2 u (by simp)
        omega
      · exact ih h2 t ht
theorem takeWhile_all {p : Int × Int → Bool} {l : Segs} (h : ∀ s ∈ l, p s = true) (r : Segs) : (l ++ r).takeWhile p = l ++ r.takeWhile p := by
  induction l with
  | nil => rfl
  | cons s t ih => rw [List.cons_append, List.takeWhile_cons, h s (by simp)]; simp [ih (fun u hu => h u (by simp [hu]))]
theorem takeWhile_some {p : Int × Int → Bool} {l : Segs} {s : Int × Int} (h : p s = false) : (l ++ [s]).takeWhile p = l.takeWhile p := by
  induction l with
  | nil => simp [h]
  | cons t r ih => rw [List.cons_append, List.takeWhile_cons, List.takeWhile_cons, ih]
/-- Find in a manifest with a segment more. -/
theorem find_snoc {g q : Int} {l : Segs} {x y : Int} (h : mayB g l = true) (h2 : mayB g (l ++ [(x, y)]) = true) : (y ≤ q → findB (l ++ [(x, y)]) q = l.length) ∧ (q < y → findB (l ++ [(x, y)]) q = findB l q) := by
  have hy := ((may_snoc h x y).1 h2).2.2.1
  rw [find_up h2, find_up h]
  constructor
  · intro hq
    have e : upTo q (l ++ [(x, y)]) = l.length + 1 := by
      unfold upTo
      rw [takeWhile_all (fun s hs => by have := all_le_last (may_segs h) s hs; unfold lastF at hy; simp; omega)]
      simp [hq]
    rw [e]; omega
  · intro hq
    have e : upTo q (l ++ [(x, y)]) = upTo q l := by
      unfold upTo
      rw [takeWhile_some (by simpa using hq)]
    rw [e]
end Go.Proofs.YtljmekdilhphaaaGreatDoor
