/- Manifests as the walks see them, and plain facts on them: which may be; their bytes; what bytes are one's. -/
import Derived.Test.YtppghhophaobdaaGreatDoorWr
import Derived.Test.YtppghhophaobdaaGreatDoorRd
namespace Go.Proofs.YtppghhophaobdaaGreatDoor
open Go.RowKit

/-- Segments as numbers: generation, first batch. -/
abbrev Segs := List (Int × Int)

/-- A slice of entries that holds l. -/
def SegsAt (w : World) (sv : Value) (l : Segs) : Prop :=
  ∃ a c, sv = .slice a l.length c ∧ (l = [] ∨ ∃ b o, a = some ⟨b, o, none⟩ ∧ ∀ i (h : i < l.length), w.cell? ⟨b, o + i * 2, none⟩ = some (.int .i64 l[i].1) ∧ w.cell? ⟨b, o + i * 2 + 1, none⟩ = some (.int .i64 l[i].2))

theorem SegsAt.shape {w : World} {sv : Value} {l : Segs} (h : SegsAt w sv l) : ∃ a c, sv = .slice a l.length c := by obtain ⟨a, c, h, _⟩ := h; exact ⟨a, c, h⟩
theorem SegsAt.kept {S : Nat → Prop} {w w' : World} {sv : Value} {l : Segs} (h : SegsAt w sv l) (hf : Fr S w w') (hs : ∀ g, sv.ownBlock = some g → ¬ S g) : SegsAt w' sv l := by
  obtain ⟨a, c, rfl, h | ⟨b, o, rfl, h⟩⟩ := h
  · exact ⟨a, c, rfl, .inl h⟩
  · refine ⟨_, c, rfl, .inr ⟨b, o, rfl, fun i hi => ?_⟩⟩
    obtain ⟨h1, h2⟩ := h i hi
    exact ⟨hf.cellAt h1 (hs b rfl), hf.cellAt h2 (hs b rfl)⟩
theorem SegsAt.pure {w w' : World} {sv : Value} {l : Segs} (h : SegsAt w sv l) (hb : Below w.heap.size w w') : SegsAt w' sv l := h.kept (Fr.pure (S := fun _ => False) hb) (fun _ _ hf => hf)
theorem SegsAt.at {w : World} {a : Option Addr} {c n : Nat} {l : Segs} (h : SegsAt w (.slice a n c) l) (k : Nat) (hk : k < l.length) :
    ∃ b o, a = some ⟨b, o, none⟩ ∧ w.cell? ⟨b, o + k * 2, none⟩ = some (.int .i64 l[k].1) ∧ w.cell? ⟨b, o + k * 2 + 1, none⟩ = some (.int .i64 l[k].2) ∧ b < w.heap.size := by
  obtain ⟨a', c', he, h | ⟨b, o, rfl, h⟩⟩ := h
  · subst h; simp at hk
  · cases he
    obtain ⟨h1, h2⟩ := h k hk
    exact ⟨b, o, rfl, h1, h2, ltOfCell h1⟩

/-- May segments be, behind one whose first batch is 'last'? -/
def segsOk (g : Int) : Int → Segs → Bool
  | _, [] => true
  | last, (a, f) :: t => (decide (0 ≤ a) && decide (a ≤ g) && decide (last < f) && decide (f ≤ 1048576)) && segsOk g f t
/-- May a manifest be? -/
def mayB (g : Int) (l : Segs) : Bool := segsOk g (-1) l && decide (0 ≤ g) && decide (g ≤ 99999999) && decide (1 ≤ l.length) && decide (l.length ≤ 64)

theorem segsOk_step {g last : Int} {l : Segs} {k : Nat} (hk : k < l.length) : segsOk g last (l.drop k) = ((decide (0 ≤ l[k].1) && decide (l[k].1 ≤ g) && decide (last < l[k].2) && decide (l[k].2 ≤ 1048576)) && segsOk g l[k].2 (l.drop (k + 1))) := by
  rw [List.drop_eq_getElem_cons hk]; rfl

theorem may_bad {g last A F : Int} {l r : Segs} (h : segsOk g (-1) l = segsOk g last r) {r' : Segs} (h2 : segsOk g last r = ((decide (0 ≤ A) && decide (A ≤ g) && decide (last < F) && decide (F ≤ 1048576)) && segsOk g F r'))
    (hc : A < 0 ∨ g < A ∨ F ≤ last ∨ 1048576 < F) : false = mayB g l := by
  have : (decide (0 ≤ A) && decide (A ≤ g) && decide (last < F) && decide (F ≤ 1048576)) = false := by
    rw [Bool.eq_false_iff]; intro hx
    simp only [Bool.and_eq_true, decide_eq_true_eq] at hx
    omega
  unfold mayB
  rw [h, h2, this]; rfl
theorem may_good {g last A F : Int} {l r : Segs} (h : segsOk g (-1) l = segsOk g last r) {r' : Segs} (h2 : segsOk g last r = ((decide (0 ≤ A) && decide (A ≤ g) && decide (last < F) && decide (F ≤ 1048576)) && segsOk g F r'))
    (h1 : 0 ≤ A) (h3 : A ≤ g) (h4 : last < F) (h5 : F ≤ 1048576) : segsOk g (-1) l = segsOk g F r' := by
  rw [h, h2]; simp [h1, h3, h4, h5]
theorem may_end {g last : Int} {l r : Segs} (h : segsOk g (-1) l = segsOk g last r) (hr : r = []) : mayB g l = (decide (0 ≤ g) && decide (g ≤ 99999999) && decide (1 ≤ l.length) && decide (l.length ≤ 64)) := by
  subst hr; unfold mayB; rw [h]; rfl

set_option maxHeartbeats 2000000 in
theorem may_any (w : World) (g : Int) (sv : Value) (l : Segs) (hs : SegsAt w sv l) (hl : l.length ≤ 1099511627776) :
    Calls Tryz.prog 116 #[.agg #[.int .i64 g, sv]] w fun e w' => e = .returned (.bool (mayB g l)) ∧ Below w.heap.size w w' := by
  obtain ⟨a, c, rfl⟩ := hs.shape
  have HS := Lib.hid hs
  clear hs
  go_enter Tryz.func116, Tryz.ntmps116
  go_wp2
  go_loopw [3, 9] (fun x i wr => ∃ (k : Nat) (last : Int), k ≤ l.length ∧ i = .int .i64 k ∧ x = .int .i64 last ∧ segsOk g (-1) l = segsOk g last (l.drop k) ∧ Below (w.heap.size + 1) (w.alloc (.cells #[.int .i64 g, .slice a l.length c] 40)) wr) (fun _ i _ => l.length - (intOf i).toNat)
  case atStart => exact ⟨0, -1, by omega, rfl, rfl, rfl, Below.refl _ _⟩
  case round =>
    obtain ⟨k, last, hk, rfl, rfl, hok, hb⟩ := hrel
    have HOK := Lib.hid hok
    clear hok
    have hsz := hb.size
    simp at hsz
    have hsz2 : w.heap.size < wr.heap.size := by omega
    have hc3 : wr.cell? ⟨w.heap.size, 0, none⟩ = some (.int .i64 g) := by rw [hb.cell (by show w.heap.size < _; omega), World.cell?_alloc_at _ _ _ _ rfl]; rfl
    have hc4 : wr.cell? ⟨w.heap.size, 1, none⟩ = some (.slice a l.length c) := by rw [hb.cell (by show w.heap.size < _; omega), World.cell?_alloc_at _ _ _ _ rfl]; rfl
    by_cases hlt : k < l.length
    · have HST := Lib.hid (segsOk_step (g := g) (last := last) hlt)
      obtain ⟨b, o, rfl, h1, h2, hbl⟩ := HS.out.at k hlt
      have hc1 : wr.cell? ⟨b, o + k * 2, none⟩ = some (.int .i64 l[k].1) := by rw [hb.cell (by show b < _; omega), World.cell?_alloc_past _ _ _ hbl]; exact h1
      have hc2 : wr.cell? ⟨b, o + k * 2 + 1, none⟩ = some (.int .i64 l[k].2) := by rw [hb.cell (by show b < _; omega), World.cell?_alloc_past _ _ _ hbl]; exact h2
      clear h1 h2
      generalize l[k].1 = A at *
      generalize l[k].2 = F at *
      go_wp2
      all_goals first
        | (go_ret; exact ⟨ret_bool (may_bad HOK.out HST.out (by omega)), (below_box hb).alloc (by omega) _⟩)
        | (go_roundw
           case rel => exact ⟨k + 1, F, by omega, by go_num, rfl, may_good HOK.out HST.out (by omega) (by omega) (by omega) (by omega), hb.alloc (by omega) _⟩
           case measure => simp [intOf]; omega)
    · have HE := Lib.hid (may_end HOK.out (List.drop_eq_nil_of_le (by omega)))
      go_wp2
      all_goals (go_ret; refine ⟨ret_bool (by rw [HE.out, Bool.eq_iff_iff]; simp only [Bool.and_eq_true, decide_eq_true_eq, Bool.false_eq_true, false_iff]; omega), below_box hb⟩)
end Go.Proofs.YtppghhophaobdaaGreatDoor
