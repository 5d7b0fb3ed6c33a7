/- A list of files: what is asked of it, plainly. -/
import Derived.Test.YteikdcobpfohcaaGreatDoorMAb
import Derived.Test.YteikdcobpfohcaaGreatDoorMAc
import Derived.Test.YteikdcobpfohcaaGreatDoorMAd
import Derived.Test.YteikdcobpfohcaaGreatDoorMAa
import Derived.Test.YteikdcobpfohcaaGreatDoorShelf
import Derived.Lib.ItoaLen
import Derived.Lib.ParseIntB
import Derived.Lib.IndexMore
namespace Go.Proofs.YteikdcobpfohcaaGreatDoor
open Go.RowKit Go.Maps

theorem get_cons_ne {f : FileS} {r : Fs} {n : List UInt8} (h : f.name ≠ n) : fsGet (f :: r) n = fsGet r n := by
  unfold fsGet; rw [List.find?_cons, show (f.name == n) = false from by simpa using h]
theorem get_cons_eq {f : FileS} {r : Fs} : fsGet (f :: r) f.name = some f := by
  unfold fsGet; rw [List.find?_cons, show (f.name == f.name) = true from by simp]
theorem get_ins_ne {f : FileS} {n : List UInt8} (h : f.name ≠ n) (fs : Fs) : fsGet (fsIns f fs) n = fsGet fs n := by
  induction fs with
  | nil => exact get_cons_ne h
  | cons g r ih =>
    unfold fsIns
    split
    · exact get_cons_ne h
    · by_cases hg : g.name = n
      · subst hg; rw [get_cons_eq, get_cons_eq]
      · rw [get_cons_ne hg, get_cons_ne hg, ih]
theorem get_ins_eq {f : FileS} {fs : Fs} (h : fsGet fs f.name = none) : fsGet (fsIns f fs) f.name = some f := by
  induction fs with
  | nil => exact get_cons_eq
  | cons g r ih =>
    unfold fsIns
    split
    · exact get_cons_eq
    · by_cases hg : g.name = f.name
      · rw [← hg, get_cons_eq] at h; cases h
      · rw [get_cons_ne hg] at h ⊢; exact ih h
theorem get_del_ne {n m : List UInt8} (h : m ≠ n) (fs : Fs) : fsGet (fsDel fs m) n = fsGet fs n := by
  induction fs with
  | nil => rfl
  | cons g r ih =>
    by_cases hg : g.name = m
    · rw [show fsDel (g :: r) m = fsDel r m from by unfold fsDel; rw [List.filter_cons, show (g.name == m) = true from by simpa using hg]; rfl, ih, get_cons_ne (by rw [hg]; exact h)]
    · rw [show fsDel (g :: r) m = g :: fsDel r m from by unfold fsDel; rw [List.filter_cons, show (g.name == m) = false from by simpa using hg]; rfl]
      by_cases hn : g.name = n
      · subst hn; rw [get_cons_eq, get_cons_eq]
      · rw [get_cons_ne hn, get_cons_ne hn, ih]
theorem get_del_eq (n : List UInt8) (fs : Fs) : fsGet (fsDel fs n) n = none := by
  unfold fsGet fsDel
  rw [List.find?_eq_none]
  intro g hg
  have := (List.mem_filter.1 hg).2
  simpa using this
theorem get_put_ne {f : FileS} {n : List UInt8} (h : f.name ≠ n) (fs : Fs) : fsGet (fsPut fs f) n = fsGet fs n := by
  unfold fsPut; rw [get_ins_ne h, get_del_ne h]
theorem get_put_eq (f : FileS) (fs : Fs) : fsGet (fsPut fs f) f.name = some f := by
  unfold fsPut; exact get_ins_eq (get_del_eq _ _)

theorem ins_del {f : FileS} {fs : Fs} (h : fsGet fs f.name = none) : fsDel (fsIns f fs) f.name = fs := by
  induction fs with
  | nil => unfold fsIns fsDel; simp
  | cons g r ih =>
    have hg : g.name ≠ f.name := fun e => by rw [← e, get_cons_eq] at h; cases h
    rw [get_cons_ne hg] at h
    have hk : ∀ (l : Fs), fsDel (g :: l) f.name = g :: fsDel l f.name := fun l => by unfold fsDel; rw [List.filter_cons, show (g.name == f.name) = false from by simpa using hg]; rfl
    unfold fsIns
    split
    · rw [show fsDel (f :: g :: r) f.name = fsDel (g :: r) f.name from by unfold fsDel; rw [List.filter_cons, show (f.name == f.name) = true from by simp]; rfl, hk, del_none h]
    · rw [hk, ih h]

end Go.Proofs.YteikdcobpfohcaaGreatDoor

/- A disk that has power, and no cut to come, plainly. -/
namespace Go.Proofs.YteikdcobpfohcaaGreatDoor

/-- No two files have one name. -/
def Apart (fs : Fs) : Prop := fs.Pairwise (fun f g => f.name ≠ g.name)
theorem apart_ins {f : FileS} {fs : Fs} (h : Apart fs) (hn : ∀ g ∈ fs, g.name ≠ f.name) : Apart (fsIns f fs) := by
  unfold Apart at *
  induction fs with
  | nil => exact List.pairwise_singleton _ _
  | cons g r ih =>
    unfold fsIns
    obtain ⟨h1, h2⟩ := List.pairwise_cons.1 h
    split
    · exact List.pairwise_cons.2 ⟨fun x hx => (hn x hx).symm, h⟩
    · refine List.pairwise_cons.2 ⟨fun x hx => ?_, ih h2 fun x hx => hn x (by simp [hx])⟩
      rcases mem_ins.1 hx with rfl | hx
      · exact hn g (by simp)
      · exact h1 x hx
theorem apart_del {fs : Fs} (h : Apart fs) (n : List UInt8) : Apart (fsDel fs n) := List.Pairwise.filter _ h
theorem apart_put {fs : Fs} (h : Apart fs) (f : FileS) : Apart (fsPut fs f) := apart_ins (apart_del h _) fun _ hg => (mem_del.1 hg).2
theorem get_of_mem {fs : Fs} (h : Apart fs) {f : FileS} (hf : f ∈ fs) : fsGet fs f.name = some f := by
  unfold Apart at h
  induction fs with
  | nil => simp at hf
  | cons g r ih =>
    obtain ⟨h1, h2⟩ := List.pairwise_cons.1 h
    rcases List.mem_cons.1 hf with rfl | hf
    · exact get_cons_eq
    · rw [get_cons_ne (h1 f hf)]; exact ih h2 hf
theorem mem_put {fs : Fs} {f g : FileS} : g ∈ fsPut fs f ↔ g = f ∨ (g ∈ fs ∧ g.name ≠ f.name) := by unfold fsPut; rw [mem_ins, mem_del]
theorem put_put {fs : Fs} {f g : FileS} (h : g.name = f.name) : fsPut (fsPut fs f) g = fsPut fs g := by
  unfold fsPut; rw [h, ins_del (get_del_eq _ _)]
theorem used_new {fs : Fs} {f : FileS} (h : fsGet fs f.name = none) : used (fsPut fs f) = (f.firm.length + f.pend.length) + used fs := by rw [used_put, del_none h]
theorem used_old {fs : Fs} (hp : Apart fs) {f g : FileS} (h : fsGet fs g.name = some f) : used (fsPut fs g) + (f.firm.length + f.pend.length) = (g.firm.length + g.pend.length) + used fs := by
  have := (used_del_some hp h).1
  rw [used_put]; omega
theorem len_new {fs : Fs} {f : FileS} (h : fsGet fs f.name = none) : (fsPut fs f).length = fs.length + 1 := by unfold fsPut; rw [length_ins, del_none h]
theorem len_old {fs : Fs} (hp : Apart fs) {f g : FileS} (h : fsGet fs g.name = some f) : (fsPut fs g).length = fs.length := by
  have := (used_del_some hp h).2
  unfold fsPut; rw [length_ins]; exact this

/-- There is power, and no cut to come. -/
structure On (st : DkSt) : Prop where
  lit : st.dark = false
  free : st.left = -1
theorem On.put {st : DkSt} (h : On st) (fs' : Fs) : On { st with fs := fs' } := ⟨h.lit, h.free⟩
theorem doing_on {st : DkSt} (h : On st) (fs' : Fs) : doing st fs' = ({ st with fs := fs' }, 0) := by
  obtain ⟨fs, cap, left, dark⟩ := st
  obtain ⟨h1, h2⟩ := h
  simp only at h1 h2
  subst h1 h2
  rfl
theorem create_on {st : DkSt} (h : On st) {n : List UInt8} (hn : mayName n = true) (hg : fsGet st.fs n = none) (hl : st.fs.length < 64) : dkCreate st n = ({ st with fs := fsPut st.fs ⟨n, [], []⟩ }, 0) :=
  (show dkCreate st n = doing st (fsPut st.fs ⟨n, [], []⟩) from by unfold dkCreate; rw [h.lit, hn, hg, if_neg (by decide), if_neg (by decide), if_neg (by simp), if_neg (by omega)]).trans (doing_on h _)
theorem append_on {st : DkSt} (h : On st) {n x : List UInt8} {f : FileS} (hg : fsGet st.fs n = some f) (h1 : f.firm.length + f.pend.length + x.length ≤ 1048576) (h2 : (used st.fs : Int) + (x.length : Int) ≤ st.cap) :
    dkAppend st n x = ({ st with fs := fsPut st.fs ⟨n, f.firm, f.pend ++ x⟩ }, 0) := by
  obtain ⟨fs, cap, left, dark⟩ := st
  obtain ⟨h3, h4⟩ := h
  simp only at h3 h4 h2 hg
  subst h3 h4
  unfold dkAppend
  simp only [hg, Bool.false_eq_true, if_false]
  rw [if_neg (by omega), if_neg (by decide)]
  rfl
theorem sync_on {st : DkSt} (h : On st) {n : List UInt8} {f : FileS} (hg : fsGet st.fs n = some f) : dkSync st n = ({ st with fs := fsPut st.fs ⟨n, f.firm ++ f.pend, []⟩ }, 0) :=
  (show dkSync st n = doing st (fsPut st.fs ⟨n, f.firm ++ f.pend, []⟩) from by unfold dkSync; rw [h.lit, hg, if_neg (by decide)]).trans (doing_on h _)
theorem delete_none {st : DkSt} (h : On st) {n : List UInt8} (hg : fsGet st.fs n = none) : dkDelete st n = (st, 5) := by
  unfold dkDelete
  rw [h.lit, hg, if_neg (by decide)]
theorem delete_on {st : DkSt} (h : On st) {n : List UInt8} {f : FileS} (hg : fsGet st.fs n = some f) : dkDelete st n = ({ st with fs := fsDel st.fs n }, 0) :=
  (show dkDelete st n = doing st (fsDel st.fs n) from by unfold dkDelete; rw [h.lit, hg, if_neg (by decide)]).trans (doing_on h _)
theorem rename_on {st : DkSt} (h : On st) {a c : List UInt8} {f : FileS} (hg : fsGet st.fs a = some f) (hc : mayName c = true) (hne : a ≠ c) : dkRename st a c = ({ st with fs := fsPut (fsDel st.fs a) ⟨c, f.firm, f.pend⟩ }, 0) :=
  (show dkRename st a c = doing st (fsPut (fsDel st.fs a) ⟨c, f.firm, f.pend⟩) from by
    unfold dkRename
    rw [h.lit, hg, if_neg (by decide)]
    simp only [hc, Bool.not_true, Bool.false_eq_true, if_false]
    rw [if_neg hne]).trans (doing_on h _)

end Go.Proofs.YteikdcobpfohcaaGreatDoor

/- The table of the powers of ten; numbers with zeros ahead. No function of this seat. -/
namespace Go.Proofs.YteikdcobpfohcaaGreatDoor
open Go.RowKit Go.Sort

/-- The table of the powers of ten lies as it was laid. -/
abbrev Pow (w : World) : Prop := Lib.TabIs Tryz.prog w "internal/strconv.uint64pow10" .u64 Lib.pow10Tab
theorem pow_lt {w : World} (h : Pow w) : 2 < w.heap.size := by
  unfold Pow Lib.TabIs World.var? at h
  rw [show Tryz.prog.globalNamed "internal/strconv.uint64pow10" = some 2 from by kernel_rfl] at h
  simp only [Option.bind_some] at h
  rcases Nat.lt_or_ge 2 w.heap.size with h' | h'
  · exact h'
  · rw [Array.getElem?_eq_none h'] at h; cases h
theorem Fr.pow {S : Nat → Prop} {w w' : World} (hf : Fr S w w') (h : Pow w) (hs : ¬ S 2) : Pow w' := by
  have hl := pow_lt h
  unfold Pow Lib.TabIs World.var? at h ⊢
  rw [show Tryz.prog.globalNamed "internal/strconv.uint64pow10" = some 2 from by kernel_rfl] at h ⊢
  simp only [Option.bind_some] at h ⊢
  rw [hf.block _ hl hs]; exact h
theorem below_pow {w w' : World} (hb : Below w.heap.size w w') (h : Pow w) : Pow w' := (Fr.pure (S := fun _ => False) hb).pow h (fun h => h)

def zeros (n : Nat) : List UInt8 := List.replicate n 48
theorem repeat_zeros (c : Nat) : Lib.repeatL [48] c = zeros c := by
  induction c with
  | zero => rfl
  | succ c ih => unfold Lib.repeatL zeros; rw [ih, List.replicate_succ]; rfl
def padded (n : Int) (d : Nat) : List UInt8 := zeros (d - (Lib.itoa n).length) ++ Lib.itoa n

def numberB (f : Int) : Bool := decide (0 ≤ f) && decide (f ≤ 1048576)
theorem padded_length (n : Int) (d : Nat) (h0 : -9223372036854775808 ≤ n) (h1 : n ≤ 9223372036854775807) : (padded n d).length ≤ d + 21 := by
  unfold padded zeros
  have := Lib.itoa_length_le n h0 h1
  rw [List.length_append, List.length_replicate]; omega

end Go.Proofs.YteikdcobpfohcaaGreatDoor

/- Digits, plainly. -/
namespace Go.Proofs.YteikdcobpfohcaaGreatDoor
open Go.RowKit

def isDig (c : UInt8) : Prop := 48 ≤ c.toNat ∧ c.toNat ≤ 57
theorem dig_of (d : Nat) (h : d < 10) : (UInt8.ofNat (48 + d)).toNat = 48 + d := by simp; omega
theorem parse_dec (M : Nat) (hM : M ≤ 18446744073709551615) : ∀ u, ∀ r : List UInt8, u ≤ M → Lib.parseUintM M 0 (Lib.decDigits u ++ r) = Lib.parseUintM M u r := by
  intro u
  induction u using Nat.strongRecOn with
  | _ u ih =>
    intro r hu
    rw [Lib.decDigits]
    split
    · rename_i h
      have := dig_of u h
      simp only [List.singleton_append, Lib.parseUintM, this]
      rw [if_pos (by omega), if_neg (by omega), if_neg (by omega)]
      congr 1; omega
    · rename_i h
      have := dig_of (u % 10) (by omega)
      rw [List.append_assoc]
      rw [ih (u / 10) (by omega) _ (by omega)]
      simp only [List.singleton_append, Lib.parseUintM, this]
      rw [if_pos (by omega), if_neg (by omega), if_neg (by omega)]
      congr 1; omega
theorem parse_zeros (M : Nat) (r : List UInt8) (k : Nat) : Lib.parseUintM M 0 (zeros k ++ r) = Lib.parseUintM M 0 r := by
  induction k with
  | zero => rfl
  | succ k ih =>
    unfold zeros at ih ⊢
    rw [List.replicate_succ, List.cons_append, Lib.parseUintM]
    rw [if_pos (by decide), if_neg (by decide), if_neg (by show ¬ M < 0 * 10 + (48 - 48); omega)]
    exact ih

theorem dec_digs (u : Nat) : ∀ c ∈ Lib.decDigits u, isDig c := by
  induction u using Nat.strongRecOn with
  | _ u ih =>
    rw [Lib.decDigits]
    split
    · rename_i h
      intro c hc
      rw [List.mem_singleton] at hc
      subst hc
      unfold isDig; rw [dig_of u h]; omega
    · rename_i h
      intro c hc
      rcases List.mem_append.1 hc with hc | hc
      · exact ih (u / 10) (by omega) c hc
      · rw [List.mem_singleton] at hc
        subst hc
        unfold isDig; rw [dig_of (u % 10) (by omega)]; omega
theorem dec_len (u d : Nat) (h : u < 10 ^ (d + 1)) : (Lib.decDigits u).length ≤ d + 1 := by
  induction d generalizing u with
  | zero => rw [Lib.decDigits, dif_pos (by omega)]; simp
  | succ d ih =>
    rw [Lib.decDigits]
    split
    · simp
    · have := ih (u / 10) (by rw [Nat.pow_succ] at h; omega)
      rw [List.length_append, List.length_singleton]; omega
theorem dec_pos (u : Nat) : Lib.decDigits u ≠ [] := by
  rw [Lib.decDigits]; split <;> simp

theorem padded_nat (u d : Nat) : padded (u : Int) d = zeros (d - (Lib.decDigits u).length) ++ Lib.decDigits u := by
  unfold padded; rw [Lib.itoa_nonneg]
theorem padded_digs (u d : Nat) : ∀ c ∈ padded (u : Int) d, isDig c := by
  intro c hc
  rw [padded_nat] at hc
  rcases List.mem_append.1 hc with hc | hc
  · unfold zeros at hc
    rw [List.mem_replicate] at hc
    rw [hc.2]; unfold isDig; decide
  · exact dec_digs u c hc
theorem padded_ne (u d : Nat) : padded (u : Int) d ≠ [] := by
  rw [padded_nat]; intro e; exact dec_pos u (List.append_eq_nil_iff.1 e).2
theorem padded_len (u d : Nat) (h : u < 10 ^ (d + 1)) : (padded (u : Int) (d + 1)).length = d + 1 := by
  have := dec_len u d h
  rw [padded_nat, List.length_append]; unfold zeros; rw [List.length_replicate]; omega

theorem parse_padded (u d : Nat) (hu : u < 9223372036854775808) : Lib.parseIntB 64 (padded (u : Int) d) = .ok (u : Int) := by
  have hp : Lib.parseUintM (2 ^ 64 - 1) 0 (padded (u : Int) d) = .ok u := by
    rw [padded_nat, parse_zeros]
    have := parse_dec (2 ^ 64 - 1) (by decide) u [] (by omega)
    rw [List.append_nil] at this
    rw [this]; rfl
  have hne := padded_ne u d
  have hd := padded_digs u d
  cases e : padded (u : Int) d with
  | nil => exact absurd e hne
  | cons c r =>
    rw [e] at hp hd
    have hc := hd c (by simp)
    unfold isDig at hc
    unfold Lib.parseIntB
    simp only
    rw [if_neg (by omega)]
    unfold Lib.parseUintB
    rw [if_neg (by simp), hp]
    simp only
    rw [if_neg (by rintro ⟨_, h⟩; omega), if_neg (by rintro ⟨h, _⟩; omega), if_neg (by omega)]

theorem index_dash (A B : List UInt8) (h : ∀ c ∈ A, isDig c) : Lib.index (A ++ 45 :: B) [45] = A.length := by
  refine Lib.index_first (by simp) ?_ ?_
  · unfold Lib.occAt; simp
  · intro j hj
    unfold Lib.occAt
    rw [List.drop_append_of_le_length (by omega)]
    have e : A.drop j = A[j] :: A.drop (j + 1) := (List.getElem_cons_drop ..).symm
    rw [e, List.cons_append]
    have := h A[j] (List.getElem_mem _)
    unfold isDig at this
    show ((45 : UInt8) == A[j] && List.isPrefixOf [] _) = false
    rw [show ((45 : UInt8) == A[j]) = false from by
      rw [beq_eq_false_iff_ne]; intro e2; rw [← e2] at this; exact absurd this (by decide)]
    rfl
theorem cut_dash (A B : List UInt8) (h : ∀ c ∈ A, isDig c) : Lib.cut (A ++ 45 :: B) [45] = (A, B, true) := by
  unfold Lib.cut
  rw [index_dash A B h, if_pos (by omega)]
  simp

end Go.Proofs.YteikdcobpfohcaaGreatDoor

/- The number that digits say; the order of texts, plainly. -/
namespace Go.Proofs.YteikdcobpfohcaaGreatDoor
open Go.RowKit

/-- The number that digits say, behind a number. -/
def vF : Nat → List UInt8 → Nat
  | n, [] => n
  | n, c :: r => vF (n * 10 + (c.toNat - 48)) r
theorem vF_append (a b : List UInt8) : ∀ n, vF n (a ++ b) = vF (vF n a) b := by
  induction a with
  | nil => intro n; rfl
  | cons c r ih => intro n; exact ih _
theorem vF_dec (u : Nat) : vF 0 (Lib.decDigits u) = u := by
  induction u using Nat.strongRecOn with
  | _ u ih =>
    rw [Lib.decDigits]
    split
    · rename_i h
      show 0 * 10 + ((UInt8.ofNat (48 + u)).toNat - 48) = u
      rw [dig_of u h]; omega
    · rename_i h
      rw [vF_append, ih (u / 10) (by omega)]
      show u / 10 * 10 + ((UInt8.ofNat (48 + u % 10)).toNat - 48) = u
      rw [dig_of (u % 10) (by omega)]; omega
theorem vF_zeros (k : Nat) (r : List UInt8) : vF 0 (zeros k ++ r) = vF 0 r := by
  induction k with
  | zero => rfl
  | succ k ih =>
    unfold zeros at ih ⊢
    rw [List.replicate_succ, List.cons_append]
    exact ih
theorem vF_padded (u d : Nat) : vF 0 (padded (u : Int) d) = u := by rw [padded_nat, vF_zeros, vF_dec]
def p10 : Nat → Nat
  | 0 => 1
  | k + 1 => 10 * p10 k
theorem p10_mul (a k : Nat) : a * p10 (k + 1) = (a * 10) * p10 k := by
  show a * (10 * p10 k) = _
  rw [Nat.mul_assoc]
theorem vF_ge : ∀ (l : List UInt8) (n : Nat), n * p10 l.length ≤ vF n l
  | [], n => Nat.le_of_eq (Nat.mul_one n)
  | c :: r, n => by
    have h := vF_ge r (n * 10 + (c.toNat - 48))
    have e : vF n (c :: r) = vF (n * 10 + (c.toNat - 48)) r := rfl
    have h2 : (n * 10) * p10 r.length ≤ (n * 10 + (c.toNat - 48)) * p10 r.length := Nat.mul_le_mul_right _ (Nat.le_add_right _ _)
    rw [e, List.length_cons, p10_mul]
    exact Nat.le_trans h2 h
theorem vF_lt : ∀ (l : List UInt8), (∀ c ∈ l, isDig c) → ∀ n, vF n l < (n + 1) * p10 l.length
  | [], _, n => by
    rw [List.length_nil]
    show n < (n + 1) * 1
    omega
  | c :: r, hd, n => by
    have hc := hd c (by simp)
    unfold isDig at hc
    have h := vF_lt r (fun x hx => hd x (by simp [hx])) (n * 10 + (c.toNat - 48))
    have e : vF n (c :: r) = vF (n * 10 + (c.toNat - 48)) r := rfl
    have h2 : (n * 10 + (c.toNat - 48) + 1) * p10 r.length ≤ ((n + 1) * 10) * p10 r.length := Nat.mul_le_mul_right _ (by omega)
    rw [e, List.length_cons, p10_mul]
    exact Nat.lt_of_lt_of_le h h2
theorem u8_lt {a b : UInt8} (h : a.toNat < b.toNat) : a < b := UInt8.lt_iff_toNat_lt.2 h
theorem lex_digs : ∀ (A B : List UInt8) (n : Nat), A.length = B.length → (∀ c ∈ A, isDig c) → (∀ c ∈ B, isDig c) → vF n A < vF n B → Go.bytesBefore A B = true
  | [], [], n, _, _, _, h => absurd h (Nat.lt_irrefl _)
  | [], _ :: _, _, hl, _, _, _ => by simp at hl
  | _ :: _, [], _, hl, _, _, _ => by simp at hl
  | a :: r, b :: s, n, hl, hA, hB, h => by
    have ha := hA a (by simp)
    have hb := hB b (by simp)
    unfold isDig at ha hb
    have hl' : r.length = s.length := by simpa using hl
    have hA' : ∀ c ∈ r, isDig c := fun x hx => hA x (by simp [hx])
    have hB' : ∀ c ∈ s, isDig c := fun x hx => hB x (by simp [hx])
    have h' : vF (n * 10 + (a.toNat - 48)) r < vF (n * 10 + (b.toNat - 48)) s := h
    show (decide (a < b) || (a == b && Go.bytesBefore r s)) = true
    rcases Nat.lt_trichotomy a.toNat b.toNat with hc | hc | hc
    · rw [decide_eq_true (u8_lt hc)]; rfl
    · have e : a = b := UInt8.toNat_inj.1 hc
      subst e
      rw [lex_digs r s _ hl' hA' hB' h']
      simp
    · exfalso
      have h1 := vF_lt s hB' (n * 10 + (b.toNat - 48))
      have h2 := vF_ge r (n * 10 + (a.toNat - 48))
      rw [hl'] at h2
      have h3 : (n * 10 + (b.toNat - 48) + 1) * p10 s.length ≤ (n * 10 + (a.toNat - 48)) * p10 s.length := Nat.mul_le_mul_right _ (by omega)
      omega
theorem before_same (P A B : List UInt8) (h : Go.bytesBefore A B = true) : Go.bytesBefore (P ++ A) (P ++ B) = true := by
  induction P with
  | nil => exact h
  | cons c r ih =>
    show (decide (c < c) || (c == c && Go.bytesBefore (r ++ A) (r ++ B))) = true
    rw [ih]; simp
theorem before_asymm : ∀ (a b : List UInt8), Go.bytesBefore a b = true → Go.bytesBefore b a = true → False
  | [], [], h, _ => by cases h
  | [], _ :: _, _, h => by cases h
  | _ :: _, [], h, _ => by cases h
  | a :: r, b :: s, h, h2 => by
    have k : (decide (a < b) || (a == b && Go.bytesBefore r s)) = true := h
    have k2 : (decide (b < a) || (b == a && Go.bytesBefore s r)) = true := h2
    simp only [Bool.or_eq_true, Bool.and_eq_true, decide_eq_true_eq, beq_iff_eq, UInt8.lt_iff_toNat_lt] at k k2
    clear h h2
    rcases k with k | ⟨e, k⟩
    · rcases k2 with k2 | ⟨e2, _⟩
      · omega
      · rw [e2] at k; omega
    · rcases k2 with k2 | ⟨_, k2⟩
      · rw [e] at k2; omega
      · exact before_asymm r s k k2
theorem sorted_eq {α : Type} {R : α → α → Prop} (has : ∀ a b, R a b → R b a → False) : ∀ (l m : List α), l.Pairwise R → m.Pairwise R → (∀ x, x ∈ l ↔ x ∈ m) → l = m
  | [], [], _, _, _ => rfl
  | [], b :: s, _, _, h => by have := (h b).2 (by simp); simp at this
  | a :: r, [], _, _, h => by have := (h a).1 (by simp); simp at this
  | a :: r, b :: s, hl, hm, h => by
    obtain ⟨hl1, hl2⟩ := List.pairwise_cons.1 hl
    obtain ⟨hm1, hm2⟩ := List.pairwise_cons.1 hm
    have hab : a = b := by
      rcases List.mem_cons.1 ((h a).1 (by simp)) with e | e
      · exact e
      · rcases List.mem_cons.1 ((h b).2 (by simp)) with e2 | e2
        · exact e2.symm
        · exact (has a b (hl1 b e2) (hm1 a e)).elim
    subst hab
    have hr : r = s := sorted_eq has r s hl2 hm2 fun x => by
      constructor
      · intro hx
        rcases List.mem_cons.1 ((h x).1 (by simp [hx])) with e | e
        · exact (has x x (e ▸ hl1 x hx) (e ▸ hl1 x hx)).elim
        · exact e
      · intro hx
        rcases List.mem_cons.1 ((h x).2 (by simp [hx])) with e | e
        · exact (has x x (e ▸ hm1 x hx) (e ▸ hm1 x hx)).elim
        · exact e
    rw [hr]

end Go.Proofs.YteikdcobpfohcaaGreatDoor
