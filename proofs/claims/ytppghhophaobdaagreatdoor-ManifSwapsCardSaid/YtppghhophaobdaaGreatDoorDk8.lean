/- Files as they are handed in; the walk of Load. -/
import Derived.Test.YtppghhophaobdaaGreatDoorDk7
namespace Go.Proofs.YtppghhophaobdaaGreatDoor
open Go.RowKit Go.Maps Go.Sort

/-- A slice of files that holds l. -/
def FilesAt (w : World) (sv : Value) (l : Fs) : Prop :=
  ∃ a c, sv = .slice a l.length c ∧ (l = [] ∨ ∃ b o, a = some ⟨b, o, none⟩ ∧ ∀ i (h : i < l.length), ∃ x y z : ByteArray, x.data.toList = l[i].name ∧ y.data.toList = l[i].firm ∧ z.data.toList = l[i].pend ∧
    w.cell? ⟨b, o + i * 3, none⟩ = some (.string x) ∧ w.cell? ⟨b, o + i * 3 + 1, none⟩ = some (.string y) ∧ w.cell? ⟨b, o + i * 3 + 2, none⟩ = some (.string z))
theorem FilesAt.shape {w : World} {sv : Value} {l : Fs} (h : FilesAt w sv l) : ∃ a c, sv = .slice a l.length c := by obtain ⟨a, c, h, _⟩ := h; exact ⟨a, c, h⟩
theorem FilesAt.at {w : World} {a : Option Addr} {c n : Nat} {l : Fs} (h : FilesAt w (.slice a n c) l) (k : Nat) (hk : k < l.length) :
    ∃ b o, a = some ⟨b, o, none⟩ ∧ b < w.heap.size ∧ ∃ x y z : ByteArray, x.data.toList = l[k].name ∧ y.data.toList = l[k].firm ∧ z.data.toList = l[k].pend ∧
      w.cell? ⟨b, o + k * 3, none⟩ = some (.string x) ∧ w.cell? ⟨b, o + k * 3 + 1, none⟩ = some (.string y) ∧ w.cell? ⟨b, o + k * 3 + 2, none⟩ = some (.string z) := by
  obtain ⟨a', c', he, h | ⟨b, o, rfl, h⟩⟩ := h
  · subst h; simp at hk
  · cases he
    obtain ⟨x, y, z, h1, h2, h3, h4, h5, h6⟩ := h k hk
    exact ⟨b, o, rfl, ltOfCell h4, x, y, z, h1, h2, h3, h4, h5, h6⟩

def ldGo (cnt : Nat) : List UInt8 → Fs → Bool
  | _, [] => true
  | last, f :: r => (mayName f.name && bytesBefore last f.name && decide (f.firm.length + f.pend.length ≤ 1048576) && decide (cnt ≤ 64)) && ldGo cnt f.name r
/-- What Load tells. -/
def dkLoad (cap : Int) (l : Fs) : Option DkSt × Int :=
  if cap < 0 then (none, 1) else if !ldGo l.length [] l then (none, 4) else if cap < (used l : Int) then (none, 44) else (some ⟨l, cap, -1, false⟩, 0)

structure LdInv (l : Fs) (k : Nat) (last : List UInt8) : Prop where
  eq : ldGo l.length [] l = ldGo l.length last (l.drop k)
  sorted : (l.take k).Pairwise (fun f g => bytesBefore f.name g.name = true)
  upto : ∀ g ∈ l.take k, g.name = last ∨ bytesBefore g.name last = true
  keep : FsKeep (l.take k)

theorem ins_last {fs : Fs} {f : FileS} (h : ∀ g ∈ fs, bytesBefore g.name f.name = true) : fsPut fs f = fs ++ [f] := by
  have hd : fsDel fs f.name = fs := by
    unfold fsDel; rw [List.filter_eq_self]; intro g hg
    have := bytesBefore_ne (h g hg); simpa using this
  unfold fsPut; rw [hd]
  clear hd
  induction fs with
  | nil => rfl
  | cons g r ih =>
    have hg := h g (by simp)
    have hn : bytesBefore f.name g.name = false := by
      cases e : bytesBefore f.name g.name
      · rfl
      · have := WideShapes.bytes_trans _ _ _ hg e; rw [WideAt.bytes_irrefl] at this; cases this
    unfold fsIns; rw [hn, ih (fun x hx => h x (by simp [hx]))]; rfl

theorem LdInv.start (l : Fs) : LdInv l 0 [] := ⟨rfl, by simp, by simp, ⟨by simp, by simp, by simp⟩⟩
theorem ldGo_step {l : Fs} {k : Nat} {last : List UInt8} (hk : k < l.length) : ldGo l.length last (l.drop k) = ((mayName l[k].name && bytesBefore last l[k].name && decide (l[k].firm.length + l[k].pend.length ≤ 1048576) && decide (l.length ≤ 64)) && ldGo l.length l[k].name (l.drop (k + 1))) := by
  rw [List.drop_eq_getElem_cons hk]; rfl
theorem LdInv.bad {l : Fs} {k : Nat} {last : List UInt8} (h : LdInv l k last) (hk : k < l.length) (hc : (mayName l[k].name && bytesBefore last l[k].name && decide (l[k].firm.length + l[k].pend.length ≤ 1048576) && decide (l.length ≤ 64)) = false) : ldGo l.length [] l = false := by
  rw [h.eq, ldGo_step hk, hc]; rfl
theorem LdInv.before {l : Fs} {k : Nat} {last : List UInt8} (h : LdInv l k last) (hk : k < l.length) (hb : bytesBefore last l[k].name = true) : ∀ g ∈ l.take k, bytesBefore g.name l[k].name = true := by
  intro g hg
  rcases h.upto g hg with e | e
  · rw [e]; exact hb
  · exact WideShapes.bytes_trans _ _ _ e hb
theorem LdInv.put {l : Fs} {k : Nat} {last : List UInt8} (h : LdInv l k last) (hk : k < l.length) (hb : bytesBefore last l[k].name = true) : fsPut (l.take k) l[k] = l.take (k + 1) := by
  rw [ins_last (h.before hk hb), List.take_succ_eq_append_getElem hk]
theorem LdInv.next {l : Fs} {k : Nat} {last : List UInt8} (h : LdInv l k last) (hk : k < l.length) (h1 : mayName l[k].name = true) (h2 : bytesBefore last l[k].name = true) (h3 : l[k].firm.length + l[k].pend.length ≤ 1048576) (h4 : l.length ≤ 64) : LdInv l (k + 1) l[k].name := by
  have ht : l.take (k + 1) = l.take k ++ [l[k]] := List.take_succ_eq_append_getElem hk
  refine ⟨by rw [h.eq, ldGo_step hk, h1, h2, decide_eq_true h3, decide_eq_true h4]; rfl, ?_, ?_, ?_, ?_, ?_⟩
  · rw [ht, List.pairwise_append]
    exact ⟨h.sorted, by simp, fun a ha b hb => by rw [List.mem_singleton] at hb; subst hb; exact h.before hk h2 a ha⟩
  · intro g hg
    rw [ht, List.mem_append, List.mem_singleton] at hg
    rcases hg with hg | rfl
    · exact .inr (h.before hk h2 g hg)
    · exact .inl rfl
  · rw [List.length_take]; omega
  · intro g hg
    rw [ht, List.mem_append, List.mem_singleton] at hg
    rcases hg with hg | rfl
    · exact h.keep.small g hg
    · exact h3
  · intro g hg
    rw [ht, List.mem_append, List.mem_singleton] at hg
    rcases hg with hg | rfl
    · exact h.keep.names g hg
    · exact mayName_len h1
theorem LdInv.ok {l : Fs} {k : Nat} {last : List UInt8} (h : LdInv l k last) (hk : k = l.length) : ldGo l.length [] l = true ∧ FsOk l := by
  subst hk
  have e := h.eq
  have h1 := h.sorted
  have h2 := h.keep
  rw [List.drop_length] at e
  rw [List.take_length] at h1 h2
  exact ⟨e, h1, h2.few, h2.small, h2.names⟩

theorem bytesLess_before : ∀ (a b : List UInt8), Op.bytesLess a b = bytesBefore a b
  | [], [] => rfl
  | [], _ :: _ => rfl
  | _ :: _, [] => rfl
  | a :: r, b :: s => by unfold Op.bytesLess bytesBefore; rw [bytesLess_before r s]
theorem leq_before (a b : List UInt8) : (Op.bytesLess a b || a == b) = !bytesBefore b a := by
  rw [bytesLess_before]
  by_cases h : a = b
  · subst h; rw [WideAt.bytes_irrefl]; simp
  · rw [show (a == b) = false from by simpa using h, Bool.or_false]
    rcases WideAt.bytes_total a b h with e | e
    · rw [e]
      cases e2 : bytesBefore b a
      · rfl
      · have := WideShapes.bytes_trans _ _ _ e e2; rw [WideAt.bytes_irrefl] at this; cases this
    · rw [e]
      cases e2 : bytesBefore a b
      · rfl
      · have := WideShapes.bytes_trans _ _ _ e e2; rw [WideAt.bytes_irrefl] at this; cases this

end Go.Proofs.YtppghhophaobdaaGreatDoor
