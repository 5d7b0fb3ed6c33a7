/- Files put and taken: what stays true of a list of files; and a disk behind a turn of its map. -/
import Derived.Test.YtppghhophaobdaaGreatDoorDo
namespace Go.Proofs.YtppghhophaobdaaGreatDoor
open Go.RowKit Go.Maps

theorem own_sorted {w : World} {b n : Nat} {fs : Fs} (h : w.ownsMap Tryz.prog 9 fileElem b n (fsD fs)) : fs.Pairwise (fun f g => bytesBefore f.name g.name = true) := by
  obtain ⟨es, clock, _, F, _, e⟩ := h
  have h1 := WideShapes.rising_pairwise _ (fit_rising Tryz.strKey F)
  have e3 : (DataW.map (fs.map entD) : DataW Unit) = fsD fs := rfl
  rw [e] at e3
  have e2 := DataW.map.inj e3
  rw [← e2, List.pairwise_map] at h1
  exact h1

theorem used_cons (f : FileS) (fs : Fs) : used (f :: fs) = (f.firm.length + f.pend.length) + used fs := by simp [used]
theorem mem_ins {f g : FileS} {fs : Fs} : g ∈ fsIns f fs ↔ g = f ∨ g ∈ fs := by
  induction fs with
  | nil => simp [fsIns]
  | cons h r ih =>
    unfold fsIns
    split
    · simp
    · simp only [List.mem_cons, ih]
      constructor
      · rintro (h | h | h) <;> simp [h]
      · rintro (h | h | h) <;> simp [h]
theorem length_ins (f : FileS) (fs : Fs) : (fsIns f fs).length = fs.length + 1 := by
  induction fs with
  | nil => rfl
  | cons h r ih => unfold fsIns; split <;> simp [ih]
theorem used_ins (f : FileS) (fs : Fs) : used (fsIns f fs) = (f.firm.length + f.pend.length) + used fs := by
  induction fs with
  | nil => rfl
  | cons h r ih =>
    unfold fsIns
    split
    · exact used_cons _ _
    · rw [used_cons, ih, used_cons]; omega
theorem mem_del {g : FileS} {fs : Fs} {n : List UInt8} : g ∈ fsDel fs n ↔ g ∈ fs ∧ g.name ≠ n := by
  unfold fsDel; rw [List.mem_filter]; simp
theorem length_del (fs : Fs) (n : List UInt8) : (fsDel fs n).length ≤ fs.length := List.length_filter_le _ _
theorem used_del (fs : Fs) (n : List UInt8) : used (fsDel fs n) ≤ used fs := by
  induction fs with
  | nil => simp [fsDel]
  | cons g r ih =>
    unfold fsDel at ih ⊢
    rw [List.filter_cons, used_cons]
    split
    · rw [used_cons]; omega
    · omega
theorem del_none {fs : Fs} {n : List UInt8} (h : fsGet fs n = none) : fsDel fs n = fs := by
  unfold fsDel
  rw [List.filter_eq_self]
  intro g hg
  have := List.find?_eq_none.1 h g hg
  simpa using this
theorem used_del_some {fs : Fs} (hp : fs.Pairwise (fun f g => f.name ≠ g.name)) {n : List UInt8} {f : FileS} (h : fsGet fs n = some f) : used (fsDel fs n) + (f.firm.length + f.pend.length) = used fs ∧ (fsDel fs n).length + 1 = fs.length := by
  induction fs with
  | nil => simp [fsGet] at h
  | cons g r ih =>
    obtain ⟨h1, h2⟩ := List.pairwise_cons.1 hp
    unfold fsGet at h
    rw [List.find?_cons] at h
    unfold fsDel
    rw [List.filter_cons]
    by_cases e : g.name = n
    · rw [show (g.name == n) = true from by simp [e]] at h ⊢
      have hgf : g = f := Option.some.inj h
      subst hgf
      have hr : r.filter (fun g => !(g.name == n)) = r := by
        rw [List.filter_eq_self]
        intro x hx
        have : x.name ≠ n := fun e2 => h1 x hx (e.trans e2.symm)
        simpa using this
      rw [if_neg (by simp), hr, used_cons]
      exact ⟨by omega, rfl⟩
    · rw [show (g.name == n) = false from by simpa using e] at h ⊢
      have := ih h2 h
      rw [if_pos (by rfl), used_cons, used_cons, List.length_cons, List.length_cons]
      unfold fsDel at this
      exact ⟨by omega, by omega⟩

/-- Few, small, well named: what a turn of the map must keep. -/
structure FsKeep (fs : Fs) : Prop where
  few : fs.length ≤ 64
  small : ∀ f ∈ fs, f.firm.length + f.pend.length ≤ 1048576
  names : ∀ f ∈ fs, f.name.length ≤ 24
theorem FsOk.keep {fs : Fs} (h : FsOk fs) : FsKeep fs := ⟨h.few, h.small, h.names⟩
theorem FsKeep.del {fs : Fs} (h : FsKeep fs) (n : List UInt8) : FsKeep (fsDel fs n) :=
  ⟨Nat.le_trans (length_del _ _) h.few, fun f hf => h.small f (mem_del.1 hf).1, fun f hf => h.names f (mem_del.1 hf).1⟩
theorem FsKeep.put {fs : Fs} (h : FsKeep fs) {f : FileS} (hl : (fsDel fs f.name).length < 64) (hs : f.firm.length + f.pend.length ≤ 1048576) (hn : f.name.length ≤ 24) : FsKeep (fsPut fs f) := by
  refine ⟨by unfold fsPut; rw [length_ins]; omega, ?_, ?_⟩ <;> intro g hg <;> unfold fsPut at hg <;> rw [mem_ins, mem_del] at hg <;> rcases hg with rfl | hg
  · exact hs
  · exact h.small g hg.1
  · exact hn
  · exact h.names g hg.1
theorem used_put (fs : Fs) (f : FileS) : used (fsPut fs f) = (f.firm.length + f.pend.length) + used (fsDel fs f.name) := by unfold fsPut; rw [used_ins]

theorem IsDk.turned {w w' : World} {p b n : Nat} {st : DkSt} {fs' : Fs} (h : IsDk w p b st) (own : w'.ownsMap Tryz.prog 9 fileElem b n (fsD fs')) (ht : w.mapTurned w' b) (hk : FsKeep fs') (hf : (used fs' : Int) ≤ st.cap) : IsDk w' p b { st with fs := fs' } :=
  ⟨(turned_fr ht).heapAt h.cell (fun e => h.ne e.symm), (by have := ownsMap_tight own; rw [size_fs] at this; exact this), ⟨⟨own_sorted own, hk.few, hk.small, hk.names⟩, h.ok.cap0, h.ok.cap1, hf, h.ok.left0, h.ok.left1⟩⟩
theorem IsDk.fewer {w : World} {p b : Nat} {st : DkSt} (h : IsDk w p b st) : st.fs.length < maxLen := by have := h.ok.fs.few; unfold maxLen; omega

/-- The frame of what is done to a disk. -/
abbrev DFr (p b : Nat) : World → World → Prop := Fr (fun k => k = p ∨ k = b)
theorem Fr.toD {p b : Nat} {w w' : World} (h : Fr (fun k => k = b) w w') : DFr p b w w' := h.mono (fun _ _ e => .inr e)
theorem Fr.toD1 {p b : Nat} {w w' : World} (h : Fr (fun k => k = p) w w') : DFr p b w w' := h.mono (fun _ _ e => .inl e)
end Go.Proofs.YtppghhophaobdaaGreatDoor
