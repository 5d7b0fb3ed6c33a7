/- The walk of slices.Clone at a manifest's segments. -/
import Derived.Test.YtljmekdilhphaaaGreatDoorGv
import Derived.WalkSpells
namespace Go.Proofs.YtljmekdilhphaaaGreatDoor
open Go.RowKit Go.Sort

theorem seg_one {l : Segs} {u : Value} (h : u ∈ segCells l) : u.oneCell' = true := by
  unfold segCells at h
  obtain ⟨x, _, hx⟩ := List.mem_flatMap.1 h
  simp at hx
  rcases hx with rfl | rfl <;> rfl
theorem seg_cells {w : World} {b o c n : Nat} {l : Segs} (h : SegsAt w (.slice (some ⟨b, o, none⟩) n c) l) {j : Nat} {u : Value} (hj : (segCells l)[j]? = some u) : w.cell? ⟨b, o + j, none⟩ = some u := by
  have hlt : j < (segCells l).length := by rw [List.getElem?_eq_some_iff] at hj; exact hj.1
  rw [segCells_length] at hlt
  obtain ⟨b', o', e, h1, h2, _⟩ := h.at (j / 2) (by omega)
  cases e
  obtain ⟨g1, g2⟩ := segCells_get l (j / 2) (by omega)
  rcases (show j = j / 2 * 2 ∨ j = j / 2 * 2 + 1 from by omega) with e | e
  · rw [e, g1] at hj
    rw [e, h1]; exact hj
  · rw [e, g2] at hj
    rw [show o + j = o + j / 2 * 2 + 1 from by omega, h2]; exact hj

set_option maxRecDepth 100000 in
set_option maxHeartbeats 1000000 in
theorem clone_segs (w : World) (sv : Value) (l : Segs) (hs : SegsAt w sv l) (h0 : 0 < l.length) (hl : l.length ≤ 1000000) :
    Calls Tryz.prog 80 #[sv] w fun e w' => ∃ v, e = .returned v ∧ OwnSegs w' v l ∧ (∀ b, v.ownBlock = some b → w.heap.size ≤ b) ∧ Below w.heap.size w w' := by
  obtain ⟨a, c, rfl⟩ := hs.shape
  obtain ⟨b, o, rfl, _, _, hbl⟩ := hs.at 0 h0
  have HS := Lib.hid hs
  clear hs
  have hq : ∀ w, (binOp .eql 30 (.slice (some ⟨b, o, none⟩) l.length c) (.slice none 0 0)).run Tryz.prog w = .ok (.bool false) w := fun w => by have := Lib.run_eql_slice_nil (P := Tryz.prog) w 30 _ (some ⟨b, o, none⟩) l.length c 0 0 Tryz.underlying30; exact this
  go_enter Tryz.func80, Tryz.ntmps80
  have hrow : (w.alloc (.cells #[] 72)).ownsRow w.heap.size 72 2 (.slice (some ⟨w.heap.size, 0, none⟩) 0 0) 0 [] := ⟨rfl, .inr ⟨w.heap.size, 0, #[], rfl, Nat.le_refl _, alloc_at_top _ _ rfl, by omega, by simp, rfl, rfl⟩⟩
  have HR := Lib.hid hrow
  have HN := Lib.hid (show ∀ j u, (segCells l)[j]? = some u → (w.alloc (.cells #[] 72)).cell? ((⟨b, o, none⟩ : Addr).add j) = some u from fun j u hj => by
    rw [show (⟨b, o, none⟩ : Addr).add j = ⟨b, o + j, none⟩ from by unfold Addr.add; split <;> simp_all, World.cell?_alloc_past _ _ _ hbl]
    exact seg_cells HS.out hj)
  have HL := Lib.hid (segCells_length l)
  obtain ⟨i0, hi, hz0, hz1, hz2⟩ := info_parts Tryz.infoEntry
  have HI := Lib.hid hi
  have HZ0 := Lib.hid hz0
  have HZ1 := Lib.hid hz1
  have HZ2 := Lib.hid hz2
  clear hi hz0 hz1 hz2 hrow
  go_wp2_with (first
    | (refine wpList_append_lies _ rfl _ _ 30 rfl w.heap.size 72 i0 _ 2 16 Tryz.underlying30 HI.out HZ0.out HZ1.out HZ2.out rfl (by omega) _ 0 [] rfl HR.out ⟨b, o, none⟩ l.length c (segCells l) rfl HL.out HN.out (fun u hu => seg_one hu) h0 (by unfold maxLen; omega) (by omega) (by simp) (w.heap.size + 1) (by simp) ?_; intro gg cap w8 hown8 hgrow8 hat8 hlt8))
  simp only [Nat.zero_add, List.nil_append] at hown8 ⊢
  go_ret
  exact ⟨_, rfl, ownsRow_base hown8 (fun _ _ => Nat.zero_le _), fun j e => own_ge hown8 e, ((Below.refl _ _).alloc (Nat.le_refl _) _).grown hgrow8 (by simp) (fun j e => by cases e; exact Nat.le_refl _)⟩

end Go.Proofs.YtljmekdilhphaaaGreatDoor
