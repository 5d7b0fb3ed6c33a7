/- What a swap leaves of the files, wherever the power goes: plain. -/
import Derived.Test.YtppghhophaobdaaGreatDoorSw2
namespace Go.Proofs.YtppghhophaobdaaGreatDoor
open Go.RowKit

def isM (n : List UInt8) : Bool := n == fileN || n == freshN
def oth (fs : Fs) : Fs := fs.filter fun g => !(isM g.name)
theorem isM_file : isM fileN = true := by decide
theorem isM_fresh : isM freshN = true := by decide

theorem oth_cons_in {f : FileS} {r : Fs} (h : isM f.name = true) : oth (f :: r) = oth r := by
  unfold oth; rw [List.filter_cons, h]; rfl
theorem oth_cons_out {f : FileS} {r : Fs} (h : isM f.name = false) : oth (f :: r) = f :: oth r := by
  unfold oth; rw [List.filter_cons, h]; rfl
theorem oth_ins {f : FileS} (h : isM f.name = true) (fs : Fs) : oth (fsIns f fs) = oth fs := by
  induction fs with
  | nil => exact oth_cons_in h
  | cons g r ih =>
    unfold fsIns
    split
    · exact oth_cons_in h
    · cases hg : isM g.name
      · rw [oth_cons_out hg, oth_cons_out hg, ih]
      · rw [oth_cons_in hg, oth_cons_in hg, ih]
theorem oth_del {n : List UInt8} (h : isM n = true) (fs : Fs) : oth (fsDel fs n) = oth fs := by
  unfold oth fsDel
  rw [List.filter_filter]
  congr 1
  funext g
  by_cases e : g.name = n
  · rw [e, h]; rfl
  · rw [show (g.name == n) = false from by simpa using e]; simp
theorem oth_put {f : FileS} (h : isM f.name = true) (fs : Fs) : oth (fsPut fs f) = oth fs := by unfold fsPut; rw [oth_ins h, oth_del h]

theorem get_cons_ne {f : FileS} {r : Fs} {n : List UInt8} (h : f.name ≠ n) : fsGet (f :: r) n = fsGet r n := by
  unfold fsGet; rw [List.find?_cons, show (f.name == n) = false from by simpa using h]
theorem get_cons_eq {f : FileS} {r : Fs} : fsGet (f :: r) f.name = some f := by
  unfold fsGet; rw [List.find?_cons, show (f.name == f.name) = true from by simp]
theorem get_ins_ne {f : FileS} {n : List UInt8} (h : f.name ≠ n) (fs : Fs) : fsGet (fsIns f fs) n = fsGet fs n := by
  induction fs with
  | nil => exact get_cons_ne h
  | cons g r ih =>
    unfold fsIns
    split
    · exact get_cons_ne h
    · by_cases hg : g.name = n
      · subst hg; rw [get_cons_eq, get_cons_eq]
      · rw [get_cons_ne hg, get_cons_ne hg, ih]
theorem get_ins_eq {f : FileS} {fs : Fs} (h : fsGet fs f.name = none) : fsGet (fsIns f fs) f.name = some f := by
  induction fs with
  | nil => exact get_cons_eq
  | cons g r ih =>
    unfold fsIns
    split
    · exact get_cons_eq
    · by_cases hg : g.name = f.name
      · rw [← hg, get_cons_eq] at h; cases h
      · rw [get_cons_ne hg] at h ⊢; exact ih h
theorem get_del_ne {n m : List UInt8} (h : m ≠ n) (fs : Fs) : fsGet (fsDel fs m) n = fsGet fs n := by
  induction fs with
  | nil => rfl
  | cons g r ih =>
    by_cases hg : g.name = m
    · rw [show fsDel (g :: r) m = fsDel r m from by unfold fsDel; rw [List.filter_cons, show (g.name == m) = true from by simpa using hg]; rfl, ih, get_cons_ne (by rw [hg]; exact h)]
    · rw [show fsDel (g :: r) m = g :: fsDel r m from by unfold fsDel; rw [List.filter_cons, show (g.name == m) = false from by simpa using hg]; rfl]
      by_cases hn : g.name = n
      · subst hn; rw [get_cons_eq, get_cons_eq]
      · rw [get_cons_ne hn, get_cons_ne hn, ih]
theorem get_del_eq (n : List UInt8) (fs : Fs) : fsGet (fsDel fs n) n = none := by
  unfold fsGet fsDel
  rw [List.find?_eq_none]
  intro g hg
  have := (List.mem_filter.1 hg).2
  simpa using this
theorem get_put_ne {f : FileS} {n : List UInt8} (h : f.name ≠ n) (fs : Fs) : fsGet (fsPut fs f) n = fsGet fs n := by
  unfold fsPut; rw [get_ins_ne h, get_del_ne h]
theorem get_put_eq (f : FileS) (fs : Fs) : fsGet (fsPut fs f) f.name = some f := by
  unfold fsPut; exact get_ins_eq (get_del_eq _ _)

theorem fresh_ne_file : freshN ≠ fileN := by decide

/-- What a step leaves alone. -/
def SwKeep (st st' : DkSt) : Prop := oth st'.fs = oth st.fs ∧ fsGet st'.fs fileN = fsGet st.fs fileN
theorem SwKeep.refl (st : DkSt) : SwKeep st st := ⟨rfl, rfl⟩
theorem SwKeep.trans {a b c : DkSt} (h : SwKeep a b) (g : SwKeep b c) : SwKeep a c := ⟨g.1.trans h.1, g.2.trans h.2⟩

/-- How an op that was begun with power ends. -/
def Ends (st : DkSt) (P : DkSt → Prop) (r : DkSt × Int) : Prop :=
  (r.2 = 0 ∧ r.1.dark = false ∧ r.1.left = dec st.left ∧ st.left ≠ 0 ∧ SwKeep st r.1 ∧ P r.1) ∨ (r.2 = 45 ∧ r.1.dark = true ∧ st.left = 0 ∧ SwKeep st r.1) ∨ (r.2 ≠ 0 ∧ r.2 ≠ 45 ∧ r.1 = st)
theorem doing_ends {st : DkSt} {fs' : Fs} {P : DkSt → Prop} (hd : st.dark = false) (h1 : oth fs' = oth st.fs) (h2 : fsGet fs' fileN = fsGet st.fs fileN) (hP : P { st with left := dec st.left, fs := fs' }) : Ends st P (doing st fs') := by
  unfold doing Ends
  by_cases h0 : st.left = 0
  · rw [if_pos h0]; exact .inr (.inl ⟨rfl, rfl, h0, rfl, rfl⟩)
  · rw [if_neg h0]; exact .inl ⟨rfl, hd, rfl, h0, ⟨h1, h2⟩, hP⟩

theorem ends_0 (s : List UInt8) {st : DkSt} (hd : st.dark = false) : Ends st (fun st' => st'.fs = fsDel st.fs freshN) (stepF s 0 st) ∧ ((stepF s 0 st).2 = 5 ↔ fsGet st.fs freshN = none) := by
  show Ends _ _ (dkDelete st freshN) ∧ ((dkDelete st freshN).2 = 5 ↔ _)
  unfold dkDelete
  rw [hd]
  cases h : fsGet st.fs freshN with
  | none => exact ⟨.inr (.inr ⟨by simp, by simp, rfl⟩), ⟨fun _ => rfl, fun _ => rfl⟩⟩
  | some f =>
    refine ⟨doing_ends hd (oth_del isM_fresh _) (get_del_ne fresh_ne_file _) rfl, ⟨fun h => ?_, fun h => by cases h⟩⟩
    have h' : (doing st (fsDel st.fs freshN)).2 = 5 := h
    unfold doing at h'
    split at h' <;> simp at h'
theorem ends_1 (s : List UInt8) {st : DkSt} (hd : st.dark = false) : Ends st (fun st' => st'.fs = fsPut st.fs ⟨freshN, [], []⟩) (stepF s 1 st) := by
  show Ends _ _ (dkCreate st freshN)
  unfold dkCreate
  rw [hd, if_neg (by simp), show mayName freshN = true from by decide +kernel, if_neg (by simp)]
  split
  · exact .inr (.inr ⟨by simp, by simp, rfl⟩)
  · split
    · exact .inr (.inr ⟨by simp, by simp, rfl⟩)
    · exact doing_ends hd (oth_put isM_fresh _) (get_put_ne fresh_ne_file _) rfl
theorem ends_2 (s : List UInt8) {st : DkSt} (hd : st.dark = false) : Ends st (fun st' => ∃ f, fsGet st.fs freshN = some f ∧ st'.fs = fsPut st.fs ⟨freshN, f.firm, f.pend ++ s⟩) (stepF s 2 st) := by
  show Ends _ _ (dkAppend st freshN s)
  unfold dkAppend
  rw [hd, if_neg (by simp)]
  cases h : fsGet st.fs freshN with
  | none => exact .inr (.inr ⟨by simp, by simp, rfl⟩)
  | some f =>
    by_cases hr : (1048576 : Int) - ((f.firm.length + f.pend.length : Nat) : Int) < (s.length : Int) ∨ st.cap - (used st.fs : Int) < (s.length : Int)
    · simp only [hr, if_true]; exact .inr (.inr ⟨by simp, by simp, rfl⟩)
    · simp only [hr, if_false]
      by_cases h0 : st.left = 0
      · rw [if_pos h0]
        exact .inr (.inl ⟨rfl, rfl, h0, oth_put isM_fresh _, get_put_ne fresh_ne_file _⟩)
      · rw [if_neg h0]
        exact .inl ⟨rfl, rfl, rfl, h0, ⟨oth_put isM_fresh _, get_put_ne fresh_ne_file _⟩, f, rfl, rfl⟩
theorem ends_3 (s : List UInt8) {st : DkSt} (hd : st.dark = false) : Ends st (fun st' => ∃ f, fsGet st.fs freshN = some f ∧ st'.fs = fsPut st.fs ⟨freshN, f.firm ++ f.pend, []⟩) (stepF s 3 st) := by
  show Ends _ _ (dkSync st freshN)
  unfold dkSync
  rw [hd, if_neg (by simp)]
  cases h : fsGet st.fs freshN with
  | none => exact .inr (.inr ⟨by simp, by simp, rfl⟩)
  | some f => exact doing_ends hd (oth_put isM_fresh _) (get_put_ne fresh_ne_file _) ⟨f, rfl, rfl⟩
theorem ends_4 (s : List UInt8) {st : DkSt} (hd : st.dark = false) {f : FileS} (hf : fsGet st.fs freshN = some f) :
    ((stepF s 4 st).2 = 0 ∧ (stepF s 4 st).1.dark = false ∧ st.left ≠ 0 ∧ (stepF s 4 st).1.left = dec st.left ∧ (stepF s 4 st).1.fs = fsPut (fsDel st.fs freshN) ⟨fileN, f.firm, f.pend⟩) ∨ ((stepF s 4 st).2 = 45 ∧ (stepF s 4 st).1.dark = true ∧ st.left = 0 ∧ SwKeep st (stepF s 4 st).1) := by
  show ((dkRename st freshN fileN).2 = 0 ∧ _) ∨ _
  have e : stepF s 4 st = dkRename st freshN fileN := rfl
  rw [e]
  have e2 : dkRename st freshN fileN = doing st (fsPut (fsDel st.fs freshN) ⟨fileN, f.firm, f.pend⟩) := by
    unfold dkRename
    rw [hd, if_neg (by simp), hf]
    show (if !mayName fileN then _ else _) = _
    rw [show mayName fileN = true from by decide +kernel, if_neg (by simp), if_neg fresh_ne_file]
  rw [e2]
  unfold doing
  by_cases h0 : st.left = 0
  · rw [if_pos h0]; exact .inr ⟨rfl, rfl, h0, rfl, rfl⟩
  · rw [if_neg h0]; exact .inl ⟨rfl, hd, h0, rfl, rfl⟩

/-- How a swap ends. -/
def SwEnds (s : List UInt8) (st : DkSt) (r : DkSt × Int) : Prop :=
  (r.2 = 0 ∧ r.1.dark = false ∧ oth r.1.fs = oth st.fs ∧ fsGet r.1.fs fileN = some ⟨fileN, s, []⟩ ∧ fsGet r.1.fs freshN = none) ∨ (r.2 ≠ 0 ∧ SwKeep st r.1 ∧ (r.1.dark = true ↔ r.2 = 45))

theorem swapEnd_ne {c : Int} {st : DkSt} (h : c ≠ 44) : swapEnd c st = (st, c) := by unfold swapEnd; rw [if_neg h]
theorem swapEnd_full {st : DkSt} (hd : st.dark = false) : (swapEnd 44 st).2 ≠ 0 ∧ SwKeep st (swapEnd 44 st).1 ∧ ((swapEnd 44 st).1.dark = true ↔ (swapEnd 44 st).2 = 45) := by
  unfold swapEnd
  rw [if_pos rfl]
  have h := (ends_0 [] hd).1
  have e : stepF [] 0 st = dkDelete st freshN := rfl
  rw [e] at h
  rcases h with ⟨h1, h2, _, _, h3, _⟩ | ⟨h1, h2, _, h3⟩ | ⟨h1, h2, h3⟩
  · simp [h1, h2, h3]
  · simp [h1, h2, h3]
  · have hk : SwKeep st (dkDelete st freshN).1 := by rw [h3]; exact SwKeep.refl st
    have hdk : (dkDelete st freshN).1.dark = false := by rw [h3]; exact hd
    by_cases h5 : (dkDelete st freshN).2 = 5
    · simp [h5, hk, hdk]
    · simp [h1, h2, h5, hk, hdk]

theorem swap_stop {s : List UInt8} {st0 st : DkSt} {c : Int} (hc : c ≠ 0) (hk : SwKeep st0 st) (hd : (st.dark = true ↔ c = 45)) : SwEnds s st0 ((swapEnd c st).1, (swapEnd c st).2) := by
  by_cases h : c = 44
  · subst h
    have hd' : st.dark = false := by cases e : st.dark; rfl; exact absurd (hd.1 e) (by decide)
    obtain ⟨h1, h2, h3⟩ := swapEnd_full hd'
    exact .inr ⟨h1, hk.trans h2, h3⟩
  · rw [swapEnd_ne h]; exact .inr ⟨hc, hk, hd⟩

theorem swap_ends (st : DkSt) (hd : st.dark = false) (g : Int) (l : Segs) (hm : mayB g l = true) : SwEnds (Crc.seal_ (manBytes g l)) st (dkSwap st g l) := by
  unfold dkSwap
  rw [hm, if_pos rfl]
  generalize Crc.seal_ (manBytes g l) = s
  -- a step that does not end well
  have stop : ∀ (k : Nat) (r : List Nat) (st1 : DkSt) (P : DkSt → Prop), SwKeep st st1 → Ends st1 P (stepF s k st1) → st1.dark = false → (stepF s k st1).2 ≠ 0 → ¬ (k = 0 ∧ (stepF s k st1).2 = 5) → SwEnds s st ((swapEnd (swapL s (k :: r) st1).2 (swapL s (k :: r) st1).1)) := by
    intro k r st1 P hk he hd1 h0 h5
    rw [show swapL s (k :: r) st1 = stepF s k st1 from by unfold swapL; rw [if_pos ⟨h0, h5⟩]]
    rcases he with ⟨h1, _⟩ | ⟨h1, h2, _, h3⟩ | ⟨h1, h2, h3⟩
    · exact absurd h1 h0
    · exact swap_stop h0 (hk.trans h3) (by rw [h1, h2]; simp)
    · exact swap_stop h0 (by rw [h3]; exact hk) (by rw [h3, hd1]; simp [h2])
  have go : ∀ (k : Nat) (r : List Nat) (st1 : DkSt), ((stepF s k st1).2 = 0 ∨ (k = 0 ∧ (stepF s k st1).2 = 5)) → swapL s (k :: r) st1 = swapL s r (stepF s k st1).1 := by
    intro k r st1 h
    rw [swapL, if_neg (by rintro ⟨a, b⟩; rcases h with h | h; exact a h; exact b h)]
  obtain ⟨e0, e05⟩ := ends_0 s hd
  -- behind the first step
  have h0 : ((stepF s 0 st).2 = 0 ∨ (0 = 0 ∧ (stepF s 0 st).2 = 5)) ∨ ¬ ((stepF s 0 st).2 = 0 ∨ (0 = 0 ∧ (stepF s 0 st).2 = 5)) := Classical.em _
  rcases h0.symm with h0 | h0
  · exact stop 0 _ st _ (SwKeep.refl _) e0 hd (fun e => h0 (.inl e)) (fun e => h0 (.inr e))
  rw [go 0 _ st h0]
  have k0 : SwKeep st (stepF s 0 st).1 ∧ (stepF s 0 st).1.dark = false := by
    rcases e0 with ⟨_, h2, _, _, h3, _⟩ | ⟨h1, _⟩ | ⟨_, _, h3⟩
    · exact ⟨h3, h2⟩
    · rcases h0 with h | h <;> rw [h1] at h <;> simp at h
    · rw [h3]; exact ⟨SwKeep.refl _, hd⟩
  generalize (stepF s 0 st).1 = st1 at k0
  obtain ⟨k0, hd1⟩ := k0
  have e1 := ends_1 s hd1
  by_cases h1 : ¬ (stepF s 1 st1).2 = 0
  · exact stop 1 _ st1 _ k0 e1 hd1 h1 (by simp)
  have h1 := Classical.not_not.1 h1
  rw [go 1 _ st1 (.inl h1)]
  have k1 : SwKeep st (stepF s 1 st1).1 ∧ (stepF s 1 st1).1.dark = false ∧ fsGet (stepF s 1 st1).1.fs freshN = some ⟨freshN, [], []⟩ := by
    rcases e1 with ⟨_, h2, _, _, h3, h4⟩ | ⟨h, _⟩ | ⟨h, _⟩
    · exact ⟨k0.trans h3, h2, by rw [h4]; exact get_put_eq ⟨freshN, [], []⟩ _⟩
    · rw [h1] at h; cases h
    · exact absurd h1 h
  generalize (stepF s 1 st1).1 = st2 at k1
  obtain ⟨k1, hd2, g2⟩ := k1
  have e2 := ends_2 s hd2
  by_cases h2 : ¬ (stepF s 2 st2).2 = 0
  · exact stop 2 _ st2 _ k1 e2 hd2 h2 (by simp)
  have h2 := Classical.not_not.1 h2
  rw [go 2 _ st2 (.inl h2)]
  have k2 : SwKeep st (stepF s 2 st2).1 ∧ (stepF s 2 st2).1.dark = false ∧ fsGet (stepF s 2 st2).1.fs freshN = some ⟨freshN, [], s⟩ := by
    rcases e2 with ⟨_, h2, _, _, h3, f, h4, h5⟩ | ⟨h, _⟩ | ⟨h, _⟩
    · rw [g2] at h4; cases h4
      exact ⟨k1.trans h3, h2, by rw [h5]; exact get_put_eq ⟨freshN, [], s⟩ _⟩
    · rw [h2] at h; cases h
    · exact absurd h2 h
  generalize (stepF s 2 st2).1 = st3 at k2
  obtain ⟨k2, hd3, g3⟩ := k2
  have e3 := ends_3 s hd3
  by_cases h3 : ¬ (stepF s 3 st3).2 = 0
  · exact stop 3 _ st3 _ k2 e3 hd3 h3 (by simp)
  have h3 := Classical.not_not.1 h3
  rw [go 3 _ st3 (.inl h3)]
  have k3 : SwKeep st (stepF s 3 st3).1 ∧ (stepF s 3 st3).1.dark = false ∧ fsGet (stepF s 3 st3).1.fs freshN = some ⟨freshN, s, []⟩ := by
    rcases e3 with ⟨_, h2, _, _, h3, f, h4, h5⟩ | ⟨h, _⟩ | ⟨h, _⟩
    · rw [g3] at h4; cases h4
      exact ⟨k2.trans h3, h2, by rw [h5]; exact get_put_eq ⟨freshN, [] ++ s, []⟩ _⟩
    · rw [h3] at h; cases h
    · exact absurd h3 h
  generalize (stepF s 3 st3).1 = st4 at k3
  obtain ⟨k3, hd4, g4⟩ := k3
  rcases ends_4 s hd4 g4 with ⟨h1, h2, _, _, h3⟩ | ⟨h1, h2, _, h3⟩
  · rw [go 4 _ st4 (.inl h1)]
    show SwEnds s st (swapEnd 0 (stepF s 4 st4).1)
    rw [swapEnd_ne (by decide)]
    refine .inl ⟨rfl, h2, ?_, ?_, ?_⟩
    · show oth (stepF s 4 st4).1.fs = _
      rw [h3, oth_put isM_file, oth_del isM_fresh, k3.1]
    · show fsGet (stepF s 4 st4).1.fs fileN = _
      rw [h3]; exact get_put_eq ⟨fileN, s, []⟩ _
    · show fsGet (stepF s 4 st4).1.fs freshN = _
      rw [h3, get_put_ne (by exact fun e => fresh_ne_file e.symm), get_del_eq]
  · rw [show swapL s [4] st4 = stepF s 4 st4 from by unfold swapL; rw [if_pos ⟨by rw [h1]; decide, by simp⟩]]
    exact swap_stop (by rw [h1]; decide) (k3.trans h3) (by rw [h1, h2]; simp)

/-- What a crash leaves of a file. -/
def KeptOf (now was : FileS) : Prop := now.name = was.name ∧ now.pend = [] ∧ ∃ k, k ≤ was.pend.length ∧ now.firm = was.firm ++ was.pend.take k
inductive Pairs : Fs → Fs → Prop
  | nil : Pairs [] []
  | cons {a b : FileS} {r s : Fs} (h : KeptOf a b) (t : Pairs r s) : Pairs (a :: r) (b :: s)

theorem kept_le (k : Int) (m : Nat) : kept k m ≤ m := by
  unfold kept
  have := Int.emod_lt_of_pos (k % 18446744073709551616) (show (0 : Int) < (m : Int) + 1 from by omega)
  have := Int.emod_nonneg (k % 18446744073709551616) (show (m : Int) + 1 ≠ 0 from by omega)
  omega

theorem crash_step (ks : List Int) (f : FileS) (r : Fs) : ∃ f' ks', crashFs ks (f :: r) = f' :: crashFs ks' r ∧ KeptOf f' f ∧ (f.pend = [] → f' = f) := by
  by_cases h : f.pend = []
  · exact ⟨f, ks, crash_firm h, ⟨rfl, h, 0, by omega, by simp⟩, fun _ => rfl⟩
  · cases ks with
    | nil => exact ⟨_, [], crash_none h, ⟨rfl, rfl, 0, by omega, by simp⟩, fun e => absurd e h⟩
    | cons k t => exact ⟨_, t, crash_some h, ⟨rfl, rfl, _, kept_le k _, rfl⟩, fun e => absurd e h⟩
theorem crash_nil (ks : List Int) : crashFs ks [] = [] := by cases ks <;> rfl

theorem crash_pairs (fs : Fs) : ∀ ks, Pairs (oth (crashFs ks fs)) (oth fs) := by
  induction fs with
  | nil => intro ks; rw [crash_nil]; exact .nil
  | cons f r ih =>
    intro ks
    obtain ⟨f', ks', e, hk, _⟩ := crash_step ks f r
    rw [e]
    cases h : isM f.name
    · rw [oth_cons_out h, oth_cons_out (by rw [hk.1]; exact h)]; exact .cons hk (ih ks')
    · rw [oth_cons_in h, oth_cons_in (by rw [hk.1]; exact h)]; exact ih ks'
theorem crash_get_none {n : List UInt8} (fs : Fs) : ∀ ks, fsGet fs n = none → fsGet (crashFs ks fs) n = none := by
  induction fs with
  | nil => intro ks h; rw [crash_nil]; exact h
  | cons f r ih =>
    intro ks h
    obtain ⟨f', ks', e, hk, _⟩ := crash_step ks f r
    rw [e]
    by_cases hn : f.name = n
    · subst hn; rw [get_cons_eq] at h; cases h
    · rw [get_cons_ne hn] at h; rw [get_cons_ne (by rw [hk.1]; exact hn)]; exact ih ks' h
theorem crash_get_firm {n : List UInt8} {f0 : FileS} (h0 : f0.pend = []) (fs : Fs) : ∀ ks, fsGet fs n = some f0 → fsGet (crashFs ks fs) n = some f0 := by
  induction fs with
  | nil => intro ks h; rw [crash_nil]; exact h
  | cons f r ih =>
    intro ks h
    obtain ⟨f', ks', e, hk, he⟩ := crash_step ks f r
    rw [e]
    by_cases hn : f.name = n
    · subst hn; rw [get_cons_eq] at h; cases h; rw [he h0, get_cons_eq]
    · rw [get_cons_ne hn] at h; rw [get_cons_ne (by rw [hk.1]; exact hn)]; exact ih ks' h
end Go.Proofs.YtppghhophaobdaaGreatDoor
