/- Segments' names: what is read of them, plain. -/
import Derived.Test.YtcdjckdbcffgdaaGreatDoorMCe
import Derived.Lib.ParseIntB
import Derived.Lib.IndexMore
import Derived.Test.YtcdjckdbcffgdaaGreatDoorMkWi
import Derived.Test.YtcdjckdbcffgdaaGreatDoorMAk
import Derived.Test.YtcdjckdbcffgdaaGreatDoorMAl
namespace Go.Proofs.YtcdjckdbcffgdaaGreatDoor
open Go.RowKit

def isDig (c : UInt8) : Prop := 48 ≤ c.toNat ∧ c.toNat ≤ 57
theorem dig_of (d : Nat) (h : d < 10) : (UInt8.ofNat (48 + d)).toNat = 48 + d := by simp; omega
theorem parse_dec (M : Nat) (hM : M ≤ 18446744073709551615) : ∀ u, ∀ r : List UInt8, u ≤ M → Lib.parseUintM M 0 (Lib.decDigits u ++ r) = Lib.parseUintM M u r := by
  intro u
  induction u using Nat.strongRecOn with
  | _ u ih =>
    intro r hu
    rw [Lib.decDigits]
    split
    · rename_i h
      have := dig_of u h
      simp only [List.singleton_append, Lib.parseUintM, this]
      rw [if_pos (by omega), if_neg (by omega), if_neg (by omega)]
      congr 1; omega
    · rename_i h
      have := dig_of (u % 10) (by omega)
      rw [List.append_assoc]
      rw [ih (u / 10) (by omega) _ (by omega)]
      simp only [List.singleton_append, Lib.parseUintM, this]
      rw [if_pos (by omega), if_neg (by omega), if_neg (by omega)]
      congr 1; omega
theorem parse_zeros (M : Nat) (r : List UInt8) (k : Nat) : Lib.parseUintM M 0 (zeros k ++ r) = Lib.parseUintM M 0 r := by
  induction k with
  | zero => rfl
  | succ k ih =>
    unfold zeros at ih ⊢
    rw [List.replicate_succ, List.cons_append, Lib.parseUintM]
    rw [if_pos (by decide), if_neg (by decide), if_neg (by show ¬ M < 0 * 10 + (48 - 48); omega)]
    exact ih

theorem dec_digs (u : Nat) : ∀ c ∈ Lib.decDigits u, isDig c := by
  induction u using Nat.strongRecOn with
  | _ u ih =>
    rw [Lib.decDigits]
    split
    · rename_i h
      intro c hc
      rw [List.mem_singleton] at hc
      subst hc
      unfold isDig; rw [dig_of u h]; omega
    · rename_i h
      intro c hc
      rcases List.mem_append.1 hc with hc | hc
      · exact ih (u / 10) (by omega) c hc
      · rw [List.mem_singleton] at hc
        subst hc
        unfold isDig; rw [dig_of (u % 10) (by omega)]; omega
theorem dec_len (u d : Nat) (h : u < 10 ^ (d + 1)) : (Lib.decDigits u).length ≤ d + 1 := by
  induction d generalizing u with
  | zero => rw [Lib.decDigits, dif_pos (by omega)]; simp
  | succ d ih =>
    rw [Lib.decDigits]
    split
    · simp
    · have := ih (u / 10) (by rw [Nat.pow_succ] at h; omega)
      rw [List.length_append, List.length_singleton]; omega
theorem dec_pos (u : Nat) : Lib.decDigits u ≠ [] := by
  rw [Lib.decDigits]; split <;> simp

theorem padded_nat (u d : Nat) : padded (u : Int) d = zeros (d - (Lib.decDigits u).length) ++ Lib.decDigits u := by
  unfold padded; rw [Lib.itoa_nonneg]
theorem padded_digs (u d : Nat) : ∀ c ∈ padded (u : Int) d, isDig c := by
  intro c hc
  rw [padded_nat] at hc
  rcases List.mem_append.1 hc with hc | hc
  · unfold zeros at hc
    rw [List.mem_replicate] at hc
    rw [hc.2]; unfold isDig; decide
  · exact dec_digs u c hc
theorem padded_ne (u d : Nat) : padded (u : Int) d ≠ [] := by
  rw [padded_nat]; intro e; exact dec_pos u (List.append_eq_nil_iff.1 e).2
theorem padded_len (u d : Nat) (h : u < 10 ^ (d + 1)) : (padded (u : Int) (d + 1)).length = d + 1 := by
  have := dec_len u d h
  rw [padded_nat, List.length_append]; unfold zeros; rw [List.length_replicate]; omega

theorem parse_padded (u d : Nat) (hu : u < 9223372036854775808) : Lib.parseIntB 64 (padded (u : Int) d) = .ok (u : Int) := by
  have hp : Lib.parseUintM (2 ^ 64 - 1) 0 (padded (u : Int) d) = .ok u := by
    rw [padded_nat, parse_zeros]
    have := parse_dec (2 ^ 64 - 1) (by decide) u [] (by omega)
    rw [List.append_nil] at this
    rw [this]; rfl
  have hne := padded_ne u d
  have hd := padded_digs u d
  cases e : padded (u : Int) d with
  | nil => exact absurd e hne
  | cons c r =>
    rw [e] at hp hd
    have hc := hd c (by simp)
    unfold isDig at hc
    unfold Lib.parseIntB
    simp only
    rw [if_neg (by omega)]
    unfold Lib.parseUintB
    rw [if_neg (by simp), hp]
    simp only
    rw [if_neg (by rintro ⟨_, h⟩; omega), if_neg (by rintro ⟨h, _⟩; omega), if_neg (by omega)]

theorem index_dash (A B : List UInt8) (h : ∀ c ∈ A, isDig c) : Lib.index (A ++ 45 :: B) [45] = A.length := by
  refine Lib.index_first (by simp) ?_ ?_
  · unfold Lib.occAt; simp
  · intro j hj
    unfold Lib.occAt
    rw [List.drop_append_of_le_length (by omega)]
    have e : A.drop j = A[j] :: A.drop (j + 1) := (List.getElem_cons_drop ..).symm
    rw [e, List.cons_append]
    have := h A[j] (List.getElem_mem _)
    unfold isDig at this
    show ((45 : UInt8) == A[j] && List.isPrefixOf [] _) = false
    rw [show ((45 : UInt8) == A[j]) = false from by
      rw [beq_eq_false_iff_ne]; intro e2; rw [← e2] at this; exact absurd this (by decide)]
    rfl
theorem cut_dash (A B : List UInt8) (h : ∀ c ∈ A, isDig c) : Lib.cut (A ++ 45 :: B) [45] = (A, B, true) := by
  unfold Lib.cut
  rw [index_dash A B h, if_pos (by omega)]
  simp

theorem segName_eq (g f : Nat) (hg : g ≤ 99999999) (hf : f ≤ 1048576) : segName (g : Int) (f : Int) = 115 :: (padded (g : Int) 8 ++ 45 :: padded (f : Int) 10) := by
  unfold segName; rw [if_pos (by omega)]
theorem trim_s (r : List UInt8) : Lib.trimPrefix (115 :: r) [115] = r := by
  unfold Lib.trimPrefix Lib.hasPrefix; simp
/-- No two segments' names are alike. -/
theorem segName_inj {g f g2 f2 : Nat} (hg : g ≤ 99999999) (hf : f ≤ 1048576) (hg2 : g2 ≤ 99999999) (hf2 : f2 ≤ 1048576) (h : segName (g : Int) (f : Int) = segName (g2 : Int) (f2 : Int)) : g = g2 ∧ f = f2 := by
  rw [segName_eq g f hg hf, segName_eq g2 f2 hg2 hf2] at h
  have h := (List.cons.inj h).2
  have c1 := cut_dash _ (padded (f : Int) 10) (padded_digs g 8)
  have c2 := cut_dash _ (padded (f2 : Int) 10) (padded_digs g2 8)
  rw [h, c2] at c1
  simp only [Prod.mk.injEq] at c1
  have p1 := parse_padded g 8 (by omega)
  have p2 := parse_padded g2 8 (by omega)
  have q1 := parse_padded f 10 (by omega)
  have q2 := parse_padded f2 10 (by omega)
  rw [← c1.1, p2] at p1
  rw [← c1.2.1, q2] at q1
  simp only [Lib.NumEnd.ok.injEq] at p1 q1
  omega
theorem segName_len (g f : Nat) (hg : g ≤ 99999999) (hf : f ≤ 1048576) : (segName (g : Int) (f : Int)).length = 20 := by
  rw [segName_eq g f hg hf, List.length_cons, List.length_append, List.length_cons, padded_len g 7 (by omega), padded_len f 9 (by omega)]
end Go.Proofs.YtcdjckdbcffgdaaGreatDoor

/- Where a batch is, plain: Find in a manifest that may be, and in one with a segment more. -/
namespace Go.Proofs.YtcdjckdbcffgdaaGreatDoor
open Go.RowKit

/-- How many of the segments begin at q at most. -/
def upTo (q : Int) (l : Segs) : Nat := (l.takeWhile fun s => decide (s.2 ≤ q)).length
theorem segsOk_gt {g last : Int} {l : Segs} (h : segsOk g last l = true) : ∀ s ∈ l, last < s.2 := by
  induction l generalizing last with
  | nil => simp
  | cons s r ih =>
    obtain ⟨a, f⟩ := s
    simp only [segsOk, Bool.and_eq_true, decide_eq_true_eq] at h
    intro t ht
    rcases List.mem_cons.1 ht with rfl | ht
    · exact h.1.1.2
    · have := ih h.2 t ht; omega
theorem findGo_none {q : Int} {l : Segs} (h : ∀ s ∈ l, q < s.2) (k : Nat) (a : Int) : findGo q k a l = a := by
  induction l generalizing k a with
  | nil => rfl
  | cons s r ih =>
    have h1 := h s (by simp)
    show findGo q (k + 1) (if s.2 ≤ q then (k : Int) else a) r = a
    rw [if_neg (by omega), ih (fun t ht => h t (by simp [ht]))]
theorem findGo_up {g q : Int} {l : Segs} : ∀ {last : Int}, segsOk g last l = true → ∀ (k : Nat) (a : Int), findGo q k a l = if upTo q l = 0 then a else (k : Int) + (upTo q l : Int) - 1 := by
  induction l with
  | nil => intro _ _ k a; rfl
  | cons s r ih =>
    intro last h k a
    have h2 : segsOk g s.2 r = true := by simp only [segsOk, Bool.and_eq_true] at h; exact h.2
    show findGo q (k + 1) (if s.2 ≤ q then (k : Int) else a) r = _
    by_cases hs : s.2 ≤ q
    · have e : upTo q (s :: r) = upTo q r + 1 := by unfold upTo; rw [List.takeWhile_cons, show decide (s.2 ≤ q) = true from by simpa using hs]; simp
      rw [if_pos hs, ih h2, e, if_neg (show ¬ upTo q r + 1 = 0 by omega)]
      split <;> omega
    · have e : upTo q (s :: r) = 0 := by unfold upTo; rw [List.takeWhile_cons, show decide (s.2 ≤ q) = false from by simpa using hs]; rfl
      rw [if_neg hs, e, if_pos rfl]
      exact findGo_none (fun t ht => by have := segsOk_gt h2 t ht; omega) _ _
theorem may_segs {g : Int} {l : Segs} (h : mayB g l = true) : segsOk g (-1) l = true := by
  simp only [mayB, Bool.and_eq_true] at h; exact h.1.1.1.1
theorem find_up {g q : Int} {l : Segs} (h : mayB g l = true) : findB l q = (upTo q l : Int) - 1 := by
  unfold findB; rw [findGo_up (may_segs h)]; split <;> omega
theorem up_le (q : Int) (l : Segs) : upTo q l ≤ l.length := (List.takeWhile_sublist _).length_le
theorem up_lt {q : Int} {l : Segs} {i : Nat} (h : i < upTo q l) (hi : i < l.length) : l[i].2 ≤ q := by
  induction l generalizing i with
  | nil => simp at hi
  | cons s r ih =>
    unfold upTo at h ih
    rw [List.takeWhile_cons] at h
    split at h
    · rename_i hs
      cases i with
      | zero => simpa using hs
      | succ i => exact ih (by simpa using h) (by simpa using hi)
    · simp at h
theorem up_at {q : Int} {l : Segs} (h : upTo q l < l.length) : q < l[upTo q l].2 := by
  induction l with
  | nil => simp at h
  | cons s r ih =>
    by_cases hs : s.2 ≤ q
    · have e : upTo q (s :: r) = upTo q r + 1 := by unfold upTo; rw [List.takeWhile_cons, show decide (s.2 ≤ q) = true from by simpa using hs]; simp
      have h2 : upTo q r < r.length := by rw [e] at h; simpa using h
      have := ih h2
      simp only [e, List.getElem_cons_succ]; exact this
    · have e : upTo q (s :: r) = 0 := by unfold upTo; rw [List.takeWhile_cons, show decide (s.2 ≤ q) = false from by simpa using hs]; rfl
      simp only [e, List.getElem_cons_zero]; omega

theorem segsOk_snoc {g : Int} {l : Segs} (x y : Int) : ∀ (last : Int), segsOk g last l = true → segsOk g last (l ++ [(x, y)]) = (decide (0 ≤ x) && decide (x ≤ g) && decide ((l.getLast?.map (·.2)).getD last < y) && decide (y ≤ 1048576)) := by
  induction l with
  | nil => intro last _; simp [segsOk]; rfl
  | cons s r ih =>
    intro last h
    have h2 : segsOk g s.2 r = true := by simp only [segsOk, Bool.and_eq_true] at h; exact h.2
    have e : segsOk g last (s :: r ++ [(x, y)]) = segsOk g s.2 (r ++ [(x, y)]) := by
      show ((decide (0 ≤ s.1) && decide (s.1 ≤ g) && decide (last < s.2) && decide (s.2 ≤ 1048576)) && segsOk g s.2 (r ++ [(x, y)])) = _
      have h1 : (decide (0 ≤ s.1) && decide (s.1 ≤ g) && decide (last < s.2) && decide (s.2 ≤ 1048576)) = true := by simp only [segsOk, Bool.and_eq_true] at h; simp only [Bool.and_eq_true]; exact h.1
      rw [h1]; rfl
    rw [e, ih _ h2]
    cases r with
    | nil => rfl
    | cons t r => rw [List.getLast?_cons_cons]; cases hl : (t :: r).getLast? with
      | none => simp at hl
      | some u => rfl
/-- The last segment's first batch. -/
def lastF (l : Segs) : Int := (l.getLast?.map (·.2)).getD (-1)
theorem lastF_at {l : Segs} (h : 0 < l.length) : lastF l = (l[l.length - 1]'(by omega)).2 := by
  unfold lastF; rw [List.getLast?_eq_getElem?, List.getElem?_eq_getElem (by omega)]; rfl
theorem may_snoc {g : Int} {l : Segs} (h : mayB g l = true) (x y : Int) : mayB g (l ++ [(x, y)]) = true ↔ (0 ≤ x ∧ x ≤ g ∧ lastF l < y ∧ y ≤ 1048576 ∧ l.length < 64) := by
  obtain ⟨h1, h2, h3, h4, _⟩ := mayB_all h
  unfold mayB
  rw [segsOk_snoc x y _ (may_segs h)]
  simp only [Bool.and_eq_true, decide_eq_true_eq, List.length_append, List.length_singleton]
  unfold lastF
  constructor
  · rintro ⟨⟨⟨⟨⟨⟨⟨a, b⟩, c⟩, d⟩, _⟩, _⟩, _⟩, e⟩; exact ⟨a, b, c, d, by omega⟩
  · rintro ⟨a, b, c, d, e⟩; exact ⟨⟨⟨⟨⟨⟨⟨a, b⟩, c⟩, d⟩, h1⟩, h2⟩, by omega⟩, by omega⟩
theorem all_le_last {g last : Int} {l : Segs} (h : segsOk g last l = true) : ∀ s ∈ l, s.2 ≤ (l.getLast?.map (·.2)).getD last := by
  induction l generalizing last with
  | nil => simp
  | cons s r ih =>
    have h2 : segsOk g s.2 r = true := by simp only [segsOk, Bool.and_eq_true] at h; exact h.2
    intro t ht
    cases r with
    | nil => simp at ht; subst ht; simp
    | cons u r =>
      rw [List.getLast?_cons_cons]
      have hd : ((u :: r).getLast?.map (·.2)).getD last = ((u :: r).getLast?.map (·.2)).getD s.2 := by
        cases hl : (u :: r).getLast? with
        | none => simp at hl
        | some v => rfl
      rw [hd]
      rcases List.mem_cons.1 ht with rfl | ht
      · have h3 := ih h2 u (by simp)
        have h4 := segsOk_gt h2 u (by simp)
        omega
      · exact ih h2 t ht
theorem takeWhile_all {p : Int × Int → Bool} {l : Segs} (h : ∀ s ∈ l, p s = true) (r : Segs) : (l ++ r).takeWhile p = l ++ r.takeWhile p := by
  induction l with
  | nil => rfl
  | cons s t ih => rw [List.cons_append, List.takeWhile_cons, h s (by simp)]; simp [ih (fun u hu => h u (by simp [hu]))]
theorem takeWhile_some {p : Int × Int → Bool} {l : Segs} {s : Int × Int} (h : p s = false) : (l ++ [s]).takeWhile p = l.takeWhile p := by
  induction l with
  | nil => simp [h]
  | cons t r ih => rw [List.cons_append, List.takeWhile_cons, List.takeWhile_cons, ih]
/-- Find in a manifest with a segment more. -/
theorem find_snoc {g q : Int} {l : Segs} {x y : Int} (h : mayB g l = true) (h2 : mayB g (l ++ [(x, y)]) = true) : (y ≤ q → findB (l ++ [(x, y)]) q = l.length) ∧ (q < y → findB (l ++ [(x, y)]) q = findB l q) := by
  have hy := ((may_snoc h x y).1 h2).2.2.1
  rw [find_up h2, find_up h]
  constructor
  · intro hq
    have e : upTo q (l ++ [(x, y)]) = l.length + 1 := by
      unfold upTo
      rw [takeWhile_all (fun s hs => by have := all_le_last (may_segs h) s hs; unfold lastF at hy; simp; omega)]
      simp [hq]
    rw [e]; omega
  · intro hq
    have e : upTo q (l ++ [(x, y)]) = upTo q l := by
      unfold upTo
      rw [takeWhile_some (by simpa using hq)]
    rw [e]
end Go.Proofs.YtcdjckdbcffgdaaGreatDoor

/- seglog, plainly: the log and the disk as functions. -/
namespace Go.Proofs.YtcdjckdbcffgdaaGreatDoor

/-- How a log writes: bytes of a segment, of how many frames one is marked, the version. -/
structure Cfg where
  ss : Int
  ev : Int
  v : Int
def cfgOk (c : Cfg) : Bool := decide (64 ≤ c.ss) && decide (c.ss ≤ 65536) && (decide (1 ≤ c.ev) && decide (c.ev ≤ 64)) && (decide (1 ≤ c.v) && decide (c.v ≤ 3))

/-- A segment in memory: its first number, its payloads. -/
abbrev SgIx := Nat × List (List UInt8)
def SgIx.next (x : SgIx) : Nat := x.1 + x.2.length
def SgIx.good (x : SgIx) : Nat := (segBytes x.1 x.2).length
/-- The index of bytes: a code, the first number, the payloads. -/
def sgScan (s : List UInt8) : Int × SgIx :=
  if (segFirst s).1 ≠ 0 then ((segFirst s).1, (0, [])) else (0, ((segFirst s).2, scanF s.length (segFirst s).2 (s.drop 16)))

structure LgSt where
  cfg : Cfg
  gen : Int
  segs : Segs
  ix : List SgIx
def LgSt.lastIx (l : LgSt) : SgIx := l.ix.getLast?.getD (0, [])
def LgSt.next (l : LgSt) : Nat := l.lastIx.next
def LgSt.first (l : LgSt) : Int := (l.segs.head?.map (·.2)).getD 0
def LgSt.name (l : LgSt) : List UInt8 := (l.segs.getLast?.map nameOf).getD []

/-- Steps, up to the first one that fails. -/
def runL {σ : Type} : List (σ → σ × Int) → σ → σ × Int
  | [], s => (s, 0)
  | f :: r, s => if (f s).2 ≠ 0 then f s else runL r (f s).1

def goneF (n : List UInt8) (st : DkSt) : DkSt × Int := ((dkDelete st n).1, if (dkDelete st n).2 = 5 then 0 else (dkDelete st n).2)
def unlessF (n : List UInt8) (s : DkSt → DkSt × Int) (st : DkSt) : DkSt × Int :=
  if (s st).2 = 44 then (if (dkDelete (s st).1 n).2 ≠ 0 then dkDelete (s st).1 n else ((dkDelete (s st).1 n).1, 44)) else s st
def beginF (n head : List UInt8) : List (DkSt → DkSt × Int) := [fun st => dkCreate st n, unlessF n (fun st => dkAppend st n head), fun st => dkSync st n]

/-- What Init does: the steps. -/
def initF (st : DkSt) (q : Nat) : List (DkSt → DkSt × Int) :=
  st.fs.map (fun f => goneF f.name) ++ (beginF (segName 0 q) (segHead q) ++ [unlessF (segName 0 q) (fun st => dkSwap st 0 [(0, (q : Int))])])
def lgInit (st : DkSt) (first : Int) (c : Cfg) : DkSt × Int × Option LgSt :=
  if cfgOk c = false ∨ numberB first = false then (st, 1, none)
  else if st.dark then (st, 45, none)
  else if (fsGet st.fs fileN).isSome then (st, 6, none)
  else if (runL (initF st first.toNat) st).2 ≠ 0 then ((runL (initF st first.toNat) st).1, (runL (initF st first.toNat) st).2, none)
  else ((runL (initF st first.toNat) st).1, 0, some ⟨c, 0, [(0, first)], [(first.toNat, [])]⟩)

/-- Is it a segment's file's name? -/
def isSeg (n : List UInt8) : Prop := ∃ g f : Nat, g ≤ 99999999 ∧ f ≤ 1048576 ∧ n = segName g f
open Classical in
noncomputable def orphB (l : LgSt) (n : List UInt8) : Bool := decide (isSeg n) && !(l.segs.map nameOf).contains n
/-- What Trim leaves, and tells. -/
def dkTrim (st : DkSt) (n : List UInt8) (k : Nat) : DkSt × Int :=
  if st.dark then (st, 45) else match fsGet st.fs n with
    | none => (st, 5)
    | some f => if f.firm.length + f.pend.length < k then (st, 1) else doing st (fsPut st.fs ⟨n, (f.firm ++ f.pend).take k, []⟩)
/-- What Open deletes. -/
noncomputable def orphF (s : DkSt × LgSt) : (DkSt × LgSt) × Int :=
  if s.1.dark then (s, 45) else let r := runL (((s.1.fs.map (·.name)).filter (orphB s.2)).map fun n st => dkDelete st n) s.1; ((r.1, s.2), r.2)
/-- What Open does of a segment. -/
def segF (i : Nat) (s : DkSt × LgSt) : (DkSt × LgSt) × Int :=
  let own := s.2.segs.getD i (0, 0)
  let rd := dkRead s.1 (nameOf own)
  if rd.2 = 5 then (s, 4) else if rd.2 ≠ 0 then (s, rd.2)
  else if (sgScan rd.1).1 ≠ 0 ∨ ((sgScan rd.1).2.1 : Int) ≠ own.2 then (s, 4)
  else
    let x := (sgScan rd.1).2
    let l' : LgSt := { s.2 with ix := s.2.ix ++ [x] }
    if i + 1 = s.2.segs.length then
      (if x.good < rd.1.length then let t := dkTrim s.1 (nameOf own) x.good; ((t.1, l'), t.2) else ((s.1, l'), 0))
    else if x.good < rd.1.length then ((s.1, l'), 42)
    else if (x.next : Int) ≠ (s.2.segs.getD (i + 1) (0, 0)).2 then ((s.1, l'), 4)
    else ((s.1, l'), 0)
/-- Open, of a manifest that was loaded. -/
noncomputable def openF (n : Nat) : List (DkSt × LgSt → (DkSt × LgSt) × Int) :=
  (fun s => ((((goneF freshN s.1).1, s.2), (goneF freshN s.1).2) : (DkSt × LgSt) × Int)) :: orphF :: (List.range n).map segF

/-- Does a payload go into a segment of so many bytes? -/
def fitsB (size n most : Int) : Bool := decide (1 ≤ n) && decide (n ≤ 4096) && (decide (size = 16) || decide (size ≤ most - (16 + n)))
def lgNeed (l : LgSt) (n : Nat) (turn : Bool) : Int := (16 + (n : Int)) + (if turn then 50 + 16 * (l.segs.length : Int) else 0)
def lgRoom (st : DkSt) (l : LgSt) (n : Nat) (turn : Bool) : Int :=
  if st.dark then 45 else if st.cap - (used st.fs : Int) < lgNeed l n turn ∨ 64 - (st.fs.length : Int) < (if turn then 2 else 0) then 44 else 0
def lgSync (st : DkSt) (l : LgSt) : DkSt × Int := dkSync st l.name
def rotL (l : LgSt) : List (DkSt → DkSt × Int) :=
  (fun st => lgSync st l) :: (beginF (segName l.gen l.next) (segHead l.next) ++ [fun st => dkSwap st l.gen (l.segs ++ [(l.gen, (l.next : Int))])])
def lgRotate (st : DkSt) (l : LgSt) : (DkSt × LgSt) × Int :=
  if mayB l.gen (l.segs ++ [(l.gen, (l.next : Int))]) = false then ((st, l), 4)
  else if (runL (rotL l) st).2 ≠ 0 then (((runL (rotL l) st).1, l), (runL (rotL l) st).2)
  else (((runL (rotL l) st).1, { l with segs := l.segs ++ [(l.gen, (l.next : Int))], ix := l.ix ++ [(l.next, [])] }), 0)
/-- The last segment has a payload more. -/
def LgSt.add (l : LgSt) (p : List UInt8) : LgSt := { l with ix := l.ix.dropLast ++ [(l.lastIx.1, l.lastIx.2 ++ [p])] }
def lgPut (st : DkSt) (l : LgSt) (p : List UInt8) : (DkSt × LgSt) × Int :=
  let r := dkAppend st l.name (frBytes l.next p)
  if r.2 ≠ 0 then ((r.1, l), r.2) else ((r.1, l.add p), 0)
def lgAppend (st : DkSt) (l : LgSt) (p : List UInt8) : (DkSt × LgSt) × Int :=
  if p = [] then ((st, l), 4)
  else if 4096 < p.length ∨ 1048576 ≤ l.next then ((st, l), 40)
  else
    let turn := !fitsB l.lastIx.good p.length l.cfg.ss
    if lgRoom st l p.length turn ≠ 0 then ((st, l), lgRoom st l p.length turn)
    else if turn then (if (lgRotate st l).2 ≠ 0 then lgRotate st l else lgPut (lgRotate st l).1.1 (lgRotate st l).1.2 p)
    else lgPut st l p
def lgSeq (l : LgSt) (r : (DkSt × LgSt) × Int) : Int := if r.2 = 0 then l.next else 0

/-- All payloads of a log. -/
def LgSt.all (l : LgSt) : List (List UInt8) := (l.ix.map (·.2)).flatten
/-- The payload of a number that is there. -/
def LgSt.at (l : LgSt) (k : Nat) : List UInt8 := (l.all[k]?).getD []
def lgRead (st : DkSt) (l : LgSt) (q : Int) : List UInt8 × Int :=
  if 0 ≤ q ∧ q < l.first then ([], 52) else if q < 0 ∨ (l.next : Int) ≤ q then ([], 5) else if st.dark then ([], 45) else (l.at (q - l.first).toNat, 0)
def lgRange (st : DkSt) (l : LgSt) (a b : Int) : List (List UInt8) × Int :=
  if a < 0 ∨ b < a then ([], 1) else if a < l.first then ([], 52) else if (l.next : Int) < b then ([], 5) else if a = b then ([], 0)
  else if st.dark then ([], 45) else ((l.all.drop (a - l.first).toNat).take (b - a).toNat, 0)

/-- A log that is whole. -/
structure LgOk (l : LgSt) : Prop where
  cfg : cfgOk l.cfg = true
  may : mayB l.gen l.segs = true
  len : l.ix.length = l.segs.length
  each : ∀ i (h : i < l.segs.length) (h' : i < l.ix.length), l.segs[i].2 = (l.ix[i].1 : Int) ∧ frOk l.ix[i].1 l.ix[i].2 ∧ SgIx.good l.ix[i] ≤ 1048576
  row : ∀ i (h : i + 1 < l.ix.length), l.ix[i + 1].1 = SgIx.next l.ix[i]
  top : l.next ≤ 1048576
/-- The log's files are on the disk, and no others. -/
structure LgOn (st : DkSt) (l : LgSt) : Prop where
  man : fsGet st.fs fileN = some ⟨fileN, Crc.seal_ (manBytes l.gen l.segs), []⟩
  seg : ∀ i (h : i < l.segs.length) (h' : i < l.ix.length), ∃ f, fsGet st.fs (nameOf l.segs[i]) = some f ∧ f.firm ++ f.pend = segBytes l.ix[i].1 l.ix[i].2 ∧ 16 ≤ f.firm.length ∧ (i + 1 < l.segs.length → f.pend = [])
  only : ∀ f ∈ st.fs, f.name = fileN ∨ f.name ∈ l.segs.map nameOf
end Go.Proofs.YtcdjckdbcffgdaaGreatDoor
