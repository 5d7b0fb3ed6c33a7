/- Read of any text, in one law. -/
import Derived.Test.YtljmekdilhphaaaGreatDoorAw2
import Derived.Test.YtljmekdilhphaaaGreatDoorGv
namespace Go.Proofs.YtljmekdilhphaaaGreatDoor
open Go.RowKit Go.Sort

def ReadLaw (s : ByteArray) (w : World) (e : Ending) (w' : World) : Prop :=
  Below w.heap.size w w' ∧ ((∃ c : Int, c ≠ 0 ∧ e = .returned (.tuple #[noMan, .int .i64 c])) ∨
    ∃ (g : Int) (l : Segs) (v : Value), mayB g l = true ∧ s.data.toList = Crc.seal_ (manBytes g l) ∧ OwnSegs w' v l ∧ e = .returned (.tuple #[.agg #[.int .i64 g, v], .int .i64 0]))

theorem read_law (s : ByteArray) (w : World) (hs : s.size ≤ 1099511627776) : Calls Tryz.prog 13 #[.string s] w fun e w' => ReadLaw s w e w' := by
  by_cases h4 : s.size < 4
  · refine (read_short s w h4).mono ?_
    intro e w' h
    exact ⟨h.2, .inl ⟨_, by decide, h.1⟩⟩
  · by_cases hS : Sealed s.data.toList
    · refine (read_any s w hs hS _ rfl).mono ?_
      intro e w' h
      unfold ReadPost at h
      obtain ⟨hb, h⟩ := h
      refine ⟨hb, ?_⟩
      cases hp : parseMan (s.data.toList.take (s.size - 4)) with
      | none => rw [hp] at h; exact .inl ⟨_, by decide, h⟩
      | some q =>
        obtain ⟨g, l⟩ := q
        rw [hp] at h
        obtain ⟨v, hv, _, he⟩ := h
        obtain ⟨hm, hb2⟩ := make_parse hp
        refine .inr ⟨g, l, v, hm, ?_, hv, he⟩
        rw [hb2]
        have := hS.2
        rw [size_toList] at this
        exact this.symm
    · refine (read_sum s w (by omega) (by unfold maxLen; omega) hS).mono ?_
      intro e w' h
      exact ⟨h.2, .inl ⟨_, by decide, h.1⟩⟩

end Go.Proofs.YtljmekdilhphaaaGreatDoor
