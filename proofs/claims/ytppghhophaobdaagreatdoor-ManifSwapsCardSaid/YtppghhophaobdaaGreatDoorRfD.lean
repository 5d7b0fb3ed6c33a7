/- The reference's disk in memory; appends of files; at, Used, goes, find. -/
import Derived.Test.YtppghhophaobdaaGreatDoorRfP
import Derived.Test.YtppghhophaobdaaGreatDoorRfM
import Derived.Test.YtppghhophaobdaaGreatDoorDk12
import Derived.Maps.AppendAt
namespace Go.Proofs.YtppghhophaobdaaGreatDoor
open Go.RowKit Go.Maps Go.Sort

/-- The reference's disk lies in block x, its files in block g. -/
structure IsRf (w : World) (x g c : Nat) (st : DkSt) : Prop where
  cell : w.heap[x]? = some (.cells #[.slice (some ⟨g, 0, none⟩) st.fs.length c, .int .i64 st.cap, .int .i64 st.left, .bool st.dark] 46 (0, 0))
  own : OwnFiles w (.slice (some ⟨g, 0, none⟩) st.fs.length c) st.fs
  le : st.fs.length ≤ c
  ne : g ≠ x
  ok : DkOk st

theorem IsRf.lt {w : World} {x g c : Nat} {st : DkSt} (h : IsRf w x g c st) : x < w.heap.size := lt_of_block h.cell
theorem IsRf.ltg {w : World} {x g c : Nat} {st : DkSt} (h : IsRf w x g c st) : g < w.heap.size := by
  rcases h.own.2 with ⟨hv, _⟩ | ⟨g', cap, cur, hv, _, hh, _⟩
  · cases hv
  · cases hv; exact lt_of_block hh
theorem IsRf.cs {w : World} {x g c : Nat} {st : DkSt} (h : IsRf w x g c st) :
    w.cell? ⟨x, 0, none⟩ = some (.slice (some ⟨g, 0, none⟩) st.fs.length c) ∧ w.cell? ⟨x, 1, none⟩ = some (.int .i64 st.cap) ∧ w.cell? ⟨x, 2, none⟩ = some (.int .i64 st.left) ∧ w.cell? ⟨x, 3, none⟩ = some (.bool st.dark) := by
  refine ⟨?_, ?_, ?_, ?_⟩ <;> rw [cell_of_row _ _ _ _ _ _ h.cell] <;> rfl
theorem IsRf.fz {w : World} {x g c : Nat} {st : DkSt} (h : IsRf w x g c st) (j : Nat) : w.frozen? ⟨x, j, none⟩ = false := frozen_of_row w x j _ _ h.cell
theorem IsRf.kept {S : Nat → Prop} {w w' : World} {x g c : Nat} {st : DkSt} (h : IsRf w x g c st) (hf : Fr S w w') (hx : ¬ S x) (hg : ¬ S g) : IsRf w' x g c st :=
  ⟨hf.heapAt h.cell hx, hf.ownsRow h.own (fun j e => by have e2 : g = j := Option.some.inj e; subst e2; exact hg), h.le, h.ne, h.ok⟩
theorem IsRf.pure {w w' : World} {x g c : Nat} {st : DkSt} (h : IsRf w x g c st) (hb : Below w.heap.size w w') : IsRf w' x g c st := h.kept (Fr.pure (S := fun _ => False) hb) (fun h => h) (fun h => h)
/-- A file of it, in memory. -/
theorem IsRf.at {w : World} {x g c : Nat} {st : DkSt} (h : IsRf w x g c st) (k : Nat) (hk : k < st.fs.length) :
    ∃ a b d : ByteArray, a.data.toList = st.fs[k].name ∧ b.data.toList = st.fs[k].firm ∧ d.data.toList = st.fs[k].pend ∧ w.cell? ⟨g, k * 3, none⟩ = some (.string a) ∧ w.cell? ⟨g, k * 3 + 1, none⟩ = some (.string b) ∧ w.cell? ⟨g, k * 3 + 2, none⟩ = some (.string d) := by
  obtain ⟨h1, h2, h3⟩ := fileCells_get st.fs k hk
  refine ⟨_, _, _, enc_data _, enc_data _, enc_data _, ?_⟩
  rw [World.ownsRow.cellAt h.own (k * 3) (by omega), World.ownsRow.cellAt h.own (k * 3 + 1) (by omega), World.ownsRow.cellAt h.own (k * 3 + 2) (by omega)]
  exact ⟨h1, h2, h3⟩

theorem FilesAt.take {w : World} {a : Option Addr} {n c : Nat} {l : Fs} (h : FilesAt w (.slice a n c) l) (i : Nat) (hi : i ≤ l.length) : FilesAt w (.slice a i c) (l.take i) := by
  obtain ⟨a', c', e, h⟩ := h
  cases e
  refine ⟨_, _, by rw [List.length_take, Nat.min_eq_left hi], ?_⟩
  rcases h with h | ⟨b, o, rfl, h⟩
  · left; rw [h]; simp
  · right
    refine ⟨b, o, rfl, fun j hj => ?_⟩
    rw [List.length_take] at hj
    obtain ⟨x, y, z, e1, e2, e3, h1, h2, h3⟩ := h j (by omega)
    exact ⟨x, y, z, by rw [List.getElem_take]; exact e1, by rw [List.getElem_take]; exact e2, by rw [List.getElem_take]; exact e3, h1, h2, h3⟩

/-- append of files to a row of one's own: whatever lies there. -/
theorem rf_app_run (w : World) (ty : TypeId) (v : Value) (A : Fs) (hown : OwnFiles w v A) (sv : Value) (B : Fs) (hB : FilesAt w sv B) (hn : A.length + B.length ≤ 1000000) :
    ∃ v' w', (Builtin.append_ #[22, 22] ty #[v, sv]).run Tryz.prog w = .ok v' w' ∧ OwnFiles w' v' (A ++ B) ∧ w.grownBy w' v.ownBlock ∧ (v'.ownBlock = v.ownBlock ∨ v'.ownBlock = some w.heap.size) ∧ (v ≠ .slice none 0 0 → v' ≠ .slice none 0 0) := by
  obtain ⟨i0, hi, hz0, hz1, hz2⟩ := info_parts Tryz.infoFile
  obtain ⟨a, c, rfl, h⟩ := hB
  have hcells : fileCells (A ++ B) = fileCells A ++ fileCells B := by simp [fileCells]
  have fin : ∀ ad : Addr, a = some ad → (∀ j u, (fileCells B)[j]? = some u → w.cell? (ad.add j) = some u) → ∃ v' w', (Builtin.append_ #[22, 22] ty #[v, .slice a B.length c]).run Tryz.prog w = .ok v' w' ∧ OwnFiles w' v' (A ++ B) ∧ w.grownBy w' v.ownBlock ∧ (v'.ownBlock = v.ownBlock ∨ v'.ownBlock = some w.heap.size) ∧ (v ≠ .slice none 0 0 → v' ≠ .slice none 0 0) := by
    rintro ad rfl hc
    obtain ⟨v', w', h1, h2, h3, h4, h5⟩ := run_append_own_at (P := Tryz.prog) w 0 22 ty 91 i0 _ 3 48 Tryz.underlying22 hi hz0 hz1 hz2 rfl (by omega) v A.length (fileCells A) hown ad B.length c (fileCells B) (fileCells_length B) hc (by
      intro u hu
      simp only [fileCells, List.mem_flatMap] at hu
      obtain ⟨f, _, hu⟩ := hu
      simp only [List.mem_cons, List.mem_nil_iff, or_false] at hu
      rcases hu with rfl | rfl | rfl <;> rfl) (by unfold maxLen; omega) (by omega) (Nat.zero_le _)
    refine ⟨v', w', h1, ?_, h3, h5, fun hv e => hv (h4.1 e).1⟩
    unfold OwnFiles
    rw [List.length_append, hcells]; exact h2
  rcases h with h | ⟨b, o, ha, h⟩
  · subst h
    rcases a with _ | ad
    · refine ⟨v, w, ?_, by simpa using hown, World.grownBy.refl w _, .inl rfl, fun h => h⟩
      rcases hown.2 with ⟨rfl, hn0⟩ | ⟨g, cap, cur, rfl, _, _, hnc, _⟩
      · simp [Builtin.append_, run_underlying Tryz.underlying22, sizeOf, typeInfo, hi, Builtin.lenOf, Builtin.firstCells]
      · simp [Builtin.append_, run_underlying Tryz.underlying22, sizeOf, typeInfo, hi, Builtin.lenOf, Builtin.firstCells, hnc, storeCells]
    · exact fin ad rfl (fun j u hj => by simp [fileCells] at hj)
  · refine fin _ ha (fun j u hj => ?_)
    have hj2 : j < B.length * 3 := by
      have := (List.getElem?_eq_some_iff.1 hj).1
      rwa [fileCells_length] at this
    obtain ⟨h1, h2, h3⟩ := fileCells_get B (j / 3) (by omega)
    obtain ⟨x, y, z, e1, e2, e3, c1, c2, c3⟩ := h (j / 3) (by omega)
    have hadd : (⟨b, o, none⟩ : Addr).add j = ⟨b, o + j, none⟩ := by unfold Addr.add; split <;> simp_all
    rw [hadd]
    rcases (show j = j / 3 * 3 ∨ j = j / 3 * 3 + 1 ∨ j = j / 3 * 3 + 2 by omega) with e | e | e <;> rw [e] at hj ⊢
    · rw [h1] at hj; rw [c1, ← hj, enc_of e1]
    · rw [h2] at hj; rw [← Nat.add_assoc, c2, ← hj, enc_of e2]
    · rw [h3] at hj; rw [← Nat.add_assoc, c3, ← hj, enc_of e3]
end Go.Proofs.YtppghhophaobdaaGreatDoor
