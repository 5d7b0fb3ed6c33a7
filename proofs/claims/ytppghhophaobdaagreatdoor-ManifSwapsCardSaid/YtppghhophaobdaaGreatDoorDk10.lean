/- The names, rising: the walk of names. -/
import Derived.Test.YtppghhophaobdaaGreatDoorDk9
import Derived.Test.YtppghhophaobdaaGreatDoorKeys
namespace Go.Proofs.YtppghhophaobdaaGreatDoor
open Go.RowKit Go.Maps Go.Sort Go.Shelf

theorem strKeys_fs (fs : Fs) : strKeys (fsD fs) = fs.map (·.name) := by
  show (fs.map entD).map (fun p => strOf p.1) = _
  rw [List.map_map]; rfl
theorem sorted_names {fs : Fs} (hs : fs.Pairwise (fun f g => bytesBefore f.name g.name = true)) {ss : List (List UInt8)} (hp : ss.Perm (fs.map (·.name))) : ss.mergeSort (fun x y => decide (x ≤ y)) = fs.map (·.name) := by
  refine List.Perm.eq_of_pairwise (le := fun x y => x ≤ y) (fun a b _ _ h1 h2 => List.le_antisymm h1 h2) ?_ ?_ ((List.mergeSort_perm _ _).trans hp)
  · have := List.pairwise_mergeSort (le := fun (x y : List UInt8) => decide (x ≤ y)) (fun a b c h1 h2 => by simp only [decide_eq_true_eq] at *; exact List.le_trans h1 h2) (fun a b => by simpa using List.le_total a b) ss
    exact this.imp (fun h => by simpa using h)
  · rw [List.pairwise_map]
    refine hs.imp fun {a b} h => ?_
    have h1 : Op.bytesLess a.name b.name = true := by rw [bytesLess_before]; exact h
    rw [bytesLess_eq] at h1
    exact List.le_of_lt (of_decide_eq_true h1)

set_option maxRecDepth 100000 in
set_option maxHeartbeats 1000000 in
theorem dk_names (w : World) (p b : Nat) (st : DkSt) (h : IsDk w p b st) :
    Calls Tryz.prog 74 #[.pointer (some ⟨p, 0, none⟩)] w fun e w' => ∃ v, e = .returned v ∧ w'.ownsRow w.heap.size 9 1 v st.fs.length ((st.fs.map (·.name)).map encStr) ∧ Below w.heap.size w w' := by
  have H := Lib.hid h
  obtain ⟨c0, c1, c2, c3⟩ := h.cs
  clear h
  go_enter Tryz.func74, Tryz.ntmps74
  go_wp2_with fail
  refine (callsIn_wide.1 (Tryz.maps_Keys_X (some b) w)).mono ?_
  rintro e w1 ⟨rfl, rfl⟩
  go_wp2_with fail
  have hf := H.out.ok.fs.few
  have hb := (Below.refl w.heap.size w).alloc (Nat.le_refl _) (.cells #[.map (some b)] 108)
  refine (callsIn_wide.1 (Tryz.slices_Sorted_keys_X b st.fs.length (fsD st.fs) fileElem w H.out.own (by rw [size_fs]; unfold maxLen; omega) (by rw [size_fs]; omega))).mono ?_
  rintro e w2 ⟨v, ss, rfl, hp, hown, _, hb2⟩
  have HO := Lib.hid hown
  have HP := Lib.hid hp
  have HB := Lib.hid (hb.trans (hb2.mono (by simp)))
  clear hown hp hb hb2
  go_wp2
  go_ret
  rw [strKeys_fs] at HP
  have hl := HP.out.length_eq
  have ho := HO.out
  rw [sorted_names H.out.ok.fs.sorted HP.out, hl, List.length_map] at ho
  exact ⟨v, rfl, ownsRow_base ho (fun g hg => by
    obtain ⟨_, hx | ⟨g', cap, cur, e1, h2, _⟩⟩ := ho
    · rw [hx.1] at hg; cases hg
    · rw [e1] at hg; cases hg; simp at h2; show w.heap.size ≤ g'; omega), HB.out⟩

end Go.Proofs.YtppghhophaobdaaGreatDoor
