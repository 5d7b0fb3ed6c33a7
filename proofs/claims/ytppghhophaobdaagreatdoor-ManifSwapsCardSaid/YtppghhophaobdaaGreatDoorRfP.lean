/- Plain: what the reference's list of files comes to, where the files rise by their names. -/
import Derived.Test.YtppghhophaobdaaGreatDoorDk8
import Derived.Test.YtppghhophaobdaaGreatDoorDk11
import Derived.WideAt
namespace Go.Proofs.YtppghhophaobdaaGreatDoor
open Go.RowKit Go.Maps

abbrev Sorted (fs : Fs) : Prop := fs.Pairwise (fun f g => bytesBefore f.name g.name = true)

theorem before_irrefl (a : List UInt8) : bytesBefore a a = false := by
  cases h : bytesBefore a a
  · rfl
  · exact absurd rfl (bytesBefore_ne h)

theorem before_trans {a b c : List UInt8} (h : bytesBefore a b = true) (k : bytesBefore b c = true) : bytesBefore a c = true := WideShapes.bytes_trans a b c h k

/-- Where a name stands, or would stand. -/
def atN (fs : Fs) (n : List UInt8) : Nat := (fs.takeWhile fun f => bytesBefore f.name n).length
/-- Is it there? -/
def isN (fs : Fs) (n : List UInt8) : Bool := match fs[atN fs n]? with | some f => f.name == n | none => false
theorem atN_le (fs : Fs) (n : List UInt8) : atN fs n ≤ fs.length := by unfold atN; exact (List.takeWhile_sublist _).length_le
theorem atN_cons (f : FileS) (r : Fs) (n : List UInt8) : atN (f :: r) n = if bytesBefore f.name n then atN r n + 1 else 0 := by
  unfold atN; rw [List.takeWhile_cons]; split <;> simp
theorem isN_cons_before {f : FileS} {r : Fs} {n : List UInt8} (h : bytesBefore f.name n = true) : isN (f :: r) n = isN r n := by
  unfold isN; rw [atN_cons, if_pos h, List.getElem?_cons_succ]
theorem isN_cons_not {f : FileS} {r : Fs} {n : List UInt8} (h : bytesBefore f.name n = false) : isN (f :: r) n = (f.name == n) := by
  unfold isN; rw [atN_cons, if_neg (by simp [h])]; rfl

theorem get_cons (f : FileS) (r : Fs) (n : List UInt8) : fsGet (f :: r) n = if f.name == n then some f else fsGet r n := by
  unfold fsGet; rw [List.find?_cons]; split <;> simp_all
theorem del_cons (f : FileS) (r : Fs) (n : List UInt8) : fsDel (f :: r) n = if f.name == n then fsDel r n else f :: fsDel r n := by
  unfold fsDel; rw [List.filter_cons]; cases f.name == n <;> rfl
theorem del_beyond {r : Fs} {n : List UInt8} (h : ∀ g ∈ r, g.name ≠ n) : fsDel r n = r := by
  unfold fsDel; rw [List.filter_eq_self]; intro g hg; have := h g hg; simpa using this
theorem get_beyond {r : Fs} {n : List UInt8} (h : ∀ g ∈ r, g.name ≠ n) : fsGet r n = none := by
  unfold fsGet; rw [List.find?_eq_none]; intro g hg; have := h g hg; simpa using this
theorem ins_ahead {f : FileS} {r : Fs} (h : ∀ g ∈ r, bytesBefore f.name g.name = true) : fsIns f r = f :: r := by
  cases r with
  | nil => rfl
  | cons g r => unfold fsIns; rw [if_pos (h g (by simp))]

/-- All that the list's places tell: what is there, it less, it put. -/
theorem at_all {fs : Fs} (hs : Sorted fs) (n : List UInt8) :
    (isN fs n = true → ∃ h : atN fs n < fs.length, fs[atN fs n].name = n ∧ fsGet fs n = some fs[atN fs n] ∧ fsDel fs n = fs.take (atN fs n) ++ fs.drop (atN fs n + 1) ∧ ∀ f : FileS, f.name = n → fsPut fs f = fs.take (atN fs n) ++ f :: fs.drop (atN fs n + 1)) ∧
    (isN fs n = false → fsGet fs n = none ∧ fsDel fs n = fs ∧ ∀ f : FileS, f.name = n → fsPut fs f = fs.take (atN fs n) ++ f :: fs.drop (atN fs n)) := by
  induction fs with
  | nil =>
    refine ⟨fun h => by simp [isN] at h, fun _ => ⟨rfl, rfl, fun f hf => rfl⟩⟩
  | cons g r ih =>
    obtain ⟨h1, h2⟩ := List.pairwise_cons.1 hs
    have ih := ih h2
    cases hb : bytesBefore g.name n
    · have hbeyond : ∀ x ∈ r, g.name = n → x.name ≠ n := fun x hx e e2 => bytesBefore_ne (h1 x hx) (e.trans e2.symm)
      rw [isN_cons_not hb, atN_cons, if_neg (by simp [hb])]
      constructor
      · intro he
        have he : g.name = n := by simpa using he
        refine ⟨by simp, he, by rw [get_cons, if_pos (by simp [he])]; rfl, ?_, fun f hf => ?_⟩
        · rw [del_cons, if_pos (by simp [he]), del_beyond (fun x hx => hbeyond x hx he)]; rfl
        · unfold fsPut
          rw [hf, del_cons, if_pos (by simp [he]), del_beyond (fun x hx => hbeyond x hx he), ins_ahead (fun x hx => by rw [hf, ← he]; exact h1 x hx)]; rfl
      · intro hne
        have hne : g.name ≠ n := by simpa using hne
        have hg : bytesBefore n g.name = true := by
          rcases Go.WideAt.bytes_total g.name n hne with h | h
          · rw [hb] at h; cases h
          · exact h
        have hall : ∀ x ∈ g :: r, bytesBefore n x.name = true := by
          intro x hx
          rcases List.mem_cons.1 hx with rfl | hx
          · exact hg
          · exact before_trans hg (h1 x hx)
        have hno : ∀ x ∈ g :: r, x.name ≠ n := fun x hx e => by have := hall x hx; rw [e, before_irrefl] at this; cases this
        refine ⟨get_beyond hno, del_beyond hno, fun f hf => ?_⟩
        unfold fsPut
        rw [hf, del_beyond hno, ins_ahead (fun x hx => by rw [hf]; exact hall x hx)]; rfl
    · have hne : g.name ≠ n := bytesBefore_ne hb
      have hnb : (g.name == n) = false := by simpa using hne
      have hng : bytesBefore n g.name = false := by
        cases h : bytesBefore n g.name
        · rfl
        · have := before_trans hb h; rw [before_irrefl] at this; cases this
      rw [isN_cons_before hb, atN_cons, if_pos hb]
      constructor
      · intro he
        obtain ⟨hl, a1, a2, a3, a4⟩ := ih.1 he
        refine ⟨by simpa using hl, by simpa using a1, by rw [get_cons, hnb]; simpa using a2, by rw [del_cons, hnb, a3]; rfl, fun f hf => ?_⟩
        have := a4 f hf
        unfold fsPut at this ⊢
        rw [hf] at this ⊢
        rw [del_cons, hnb]
        show fsIns f (g :: fsDel r n) = _
        unfold fsIns
        rw [hf, hng]
        show g :: fsIns f (fsDel r n) = _
        rw [this]; rfl
      · intro he
        obtain ⟨a2, a3, a4⟩ := ih.2 he
        refine ⟨by rw [get_cons, hnb]; simpa using a2, by rw [del_cons, hnb, a3]; rfl, fun f hf => ?_⟩
        have := a4 f hf
        unfold fsPut at this ⊢
        rw [hf] at this ⊢
        rw [del_cons, hnb]
        show fsIns f (g :: fsDel r n) = _
        unfold fsIns
        rw [hf, hng]
        show g :: fsIns f (fsDel r n) = _
        rw [this]; rfl
end Go.Proofs.YtppghhophaobdaaGreatDoor
