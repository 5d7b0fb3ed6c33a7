/- What a swap leaves of the files, wherever the power goes: plain. -/
import Derived.Test.YtcdjckdbcffgdaaGreatDoorMAk
import Derived.Test.YtcdjckdbcffgdaaGreatDoorMCb
import Derived.Test.YtcdjckdbcffgdaaGreatDoorMCe
import Derived.Deep.RegionWith
import Derived.WalkSpells
namespace Go.Proofs.YtcdjckdbcffgdaaGreatDoor
open Go.RowKit

def isM (n : List UInt8) : Bool := n == fileN || n == freshN
def oth (fs : Fs) : Fs := fs.filter fun g => !(isM g.name)
theorem isM_file : isM fileN = true := by decide
theorem isM_fresh : isM freshN = true := by decide

theorem oth_cons_in {f : FileS} {r : Fs} (h : isM f.name = true) : oth (f :: r) = oth r := by
  unfold oth; rw [List.filter_cons, h]; rfl
theorem oth_cons_out {f : FileS} {r : Fs} (h : isM f.name = false) : oth (f :: r) = f :: oth r := by
  unfold oth; rw [List.filter_cons, h]; rfl
theorem oth_ins {f : FileS} (h : isM f.name = true) (fs : Fs) : oth (fsIns f fs) = oth fs := by
  induction fs with
  | nil => exact oth_cons_in h
  | cons g r ih =>
    unfold fsIns
    split
    · exact oth_cons_in h
    · cases hg : isM g.name
      · rw [oth_cons_out hg, oth_cons_out hg, ih]
      · rw [oth_cons_in hg, oth_cons_in hg, ih]
theorem oth_del {n : List UInt8} (h : isM n = true) (fs : Fs) : oth (fsDel fs n) = oth fs := by
  unfold oth fsDel
  rw [List.filter_filter]
  congr 1
  funext g
  by_cases e : g.name = n
  · rw [e, h]; rfl
  · rw [show (g.name == n) = false from by simpa using e]; simp
theorem oth_put {f : FileS} (h : isM f.name = true) (fs : Fs) : oth (fsPut fs f) = oth fs := by unfold fsPut; rw [oth_ins h, oth_del h]

theorem get_cons_ne {f : FileS} {r : Fs} {n : List UInt8} (h : f.name ≠ n) : fsGet (f :: r) n = fsGet r n := by
  unfold fsGet; rw [List.find?_cons, show (f.name == n) = false from by simpa using h]
theorem get_cons_eq {f : FileS} {r : Fs} : fsGet (f :: r) f.name = some f := by
  unfold fsGet; rw [List.find?_cons, show (f.name == f.name) = true from by simp]
theorem get_ins_ne {f : FileS} {n : List UInt8} (h : f.name ≠ n) (fs : Fs) : fsGet (fsIns f fs) n = fsGet fs n := by
  induction fs with
  | nil => exact get_cons_ne h
  | cons g r ih =>
    unfold fsIns
    split
    · exact get_cons_ne h
    · by_cases hg : g.name = n
      · subst hg; rw [get_cons_eq, get_cons_eq]
      · rw [get_cons_ne hg, get_cons_ne hg, ih]
theorem get_ins_eq {f : FileS} {fs : Fs} (h : fsGet fs f.name = none) : fsGet (fsIns f fs) f.name = some f := by
  induction fs with
  | nil => exact get_cons_eq
  | cons g r ih =>
    unfold fsIns
    split
    · exact get_cons_eq
    · by_cases hg : g.name = f.name
      · rw [← hg, get_cons_eq] at h; cases h
      · rw [get_cons_ne hg] at h ⊢; exact ih h
theorem get_del_ne {n m : List UInt8} (h : m ≠ n) (fs : Fs) : fsGet (fsDel fs m) n = fsGet fs n := by
  induction fs with
  | nil => rfl
  | cons g r ih =>
    by_cases hg : g.name = m
    · rw [show fsDel (g :: r) m = fsDel r m from by unfold fsDel; rw [List.filter_cons, show (g.name == m) = true from by simpa using hg]; rfl, ih, get_cons_ne (by rw [hg]; exact h)]
    · rw [show fsDel (g :: r) m = g :: fsDel r m from by unfold fsDel; rw [List.filter_cons, show (g.name == m) = false from by simpa using hg]; rfl]
      by_cases hn : g.name = n
      · subst hn; rw [get_cons_eq, get_cons_eq]
      · rw [get_cons_ne hn, get_cons_ne hn, ih]
theorem get_del_eq (n : List UInt8) (fs : Fs) : fsGet (fsDel fs n) n = none := by
  unfold fsGet fsDel
  rw [List.find?_eq_none]
  intro g hg
  have := (List.mem_filter.1 hg).2
  simpa using this
theorem get_put_ne {f : FileS} {n : List UInt8} (h : f.name ≠ n) (fs : Fs) : fsGet (fsPut fs f) n = fsGet fs n := by
  unfold fsPut; rw [get_ins_ne h, get_del_ne h]
theorem get_put_eq (f : FileS) (fs : Fs) : fsGet (fsPut fs f) f.name = some f := by
  unfold fsPut; exact get_ins_eq (get_del_eq _ _)

theorem fresh_ne_file : freshN ≠ fileN := by decide

/-- What a step leaves alone. -/
def SwKeep (st st' : DkSt) : Prop := oth st'.fs = oth st.fs ∧ fsGet st'.fs fileN = fsGet st.fs fileN
theorem SwKeep.refl (st : DkSt) : SwKeep st st := ⟨rfl, rfl⟩
theorem SwKeep.trans {a b c : DkSt} (h : SwKeep a b) (g : SwKeep b c) : SwKeep a c := ⟨g.1.trans h.1, g.2.trans h.2⟩

/-- How an op that was begun with power ends. -/
def Ends (st : DkSt) (P : DkSt → Prop) (r : DkSt × Int) : Prop :=
  (r.2 = 0 ∧ r.1.dark = false ∧ r.1.left = dec st.left ∧ st.left ≠ 0 ∧ SwKeep st r.1 ∧ P r.1) ∨ (r.2 = 45 ∧ r.1.dark = true ∧ st.left = 0 ∧ SwKeep st r.1) ∨ (r.2 ≠ 0 ∧ r.2 ≠ 45 ∧ r.1 = st)
theorem doing_ends {st : DkSt} {fs' : Fs} {P : DkSt → Prop} (hd : st.dark = false) (h1 : oth fs' = oth st.fs) (h2 : fsGet fs' fileN = fsGet st.fs fileN) (hP : P { st with left := dec st.left, fs := fs' }) : Ends st P (doing st fs') := by
  unfold doing Ends
  by_cases h0 : st.left = 0
  · rw [if_pos h0]; exact .inr (.inl ⟨rfl, rfl, h0, rfl, rfl⟩)
  · rw [if_neg h0]; exact .inl ⟨rfl, hd, rfl, h0, ⟨h1, h2⟩, hP⟩

theorem ends_0 (s : List UInt8) {st : DkSt} (hd : st.dark = false) : Ends st (fun st' => st'.fs = fsDel st.fs freshN) (stepF s 0 st) ∧ ((stepF s 0 st).2 = 5 ↔ fsGet st.fs freshN = none) := by
  show Ends _ _ (dkDelete st freshN) ∧ ((dkDelete st freshN).2 = 5 ↔ _)
  unfold dkDelete
  rw [hd]
  cases h : fsGet st.fs freshN with
  | none => exact ⟨.inr (.inr ⟨by simp, by simp, rfl⟩), ⟨fun _ => rfl, fun _ => rfl⟩⟩
  | some f =>
    refine ⟨doing_ends hd (oth_del isM_fresh _) (get_del_ne fresh_ne_file _) rfl, ⟨fun h => ?_, fun h => by cases h⟩⟩
    have h' : (doing st (fsDel st.fs freshN)).2 = 5 := h
    unfold doing at h'
    split at h' <;> simp at h'
theorem ends_1 (s : List UInt8) {st : DkSt} (hd : st.dark = false) : Ends st (fun st' => st'.fs = fsPut st.fs ⟨freshN, [], []⟩) (stepF s 1 st) := by
  show Ends _ _ (dkCreate st freshN)
  unfold dkCreate
  rw [hd, if_neg (by simp), show mayName freshN = true from by decide +kernel, if_neg (by simp)]
  split
  · exact .inr (.inr ⟨by simp, by simp, rfl⟩)
  · split
    · exact .inr (.inr ⟨by simp, by simp, rfl⟩)
    · exact doing_ends hd (oth_put isM_fresh _) (get_put_ne fresh_ne_file _) rfl
theorem ends_2 (s : List UInt8) {st : DkSt} (hd : st.dark = false) : Ends st (fun st' => ∃ f, fsGet st.fs freshN = some f ∧ st'.fs = fsPut st.fs ⟨freshN, f.firm, f.pend ++ s⟩) (stepF s 2 st) := by
  show Ends _ _ (dkAppend st freshN s)
  unfold dkAppend
  rw [hd, if_neg (by simp)]
  cases h : fsGet st.fs freshN with
  | none => exact .inr (.inr ⟨by simp, by simp, rfl⟩)
  | some f =>
    by_cases hr : (1048576 : Int) - ((f.firm.length + f.pend.length : Nat) : Int) < (s.length : Int) ∨ st.cap - (used st.fs : Int) < (s.length : Int)
    · simp only [hr, if_true]; exact .inr (.inr ⟨by simp, by simp, rfl⟩)
    · simp only [hr, if_false]
      by_cases h0 : st.left = 0
      · rw [if_pos h0]
        exact .inr (.inl ⟨rfl, rfl, h0, oth_put isM_fresh _, get_put_ne fresh_ne_file _⟩)
      · rw [if_neg h0]
        exact .inl ⟨rfl, rfl, rfl, h0, ⟨oth_put isM_fresh _, get_put_ne fresh_ne_file _⟩, f, rfl, rfl⟩
theorem ends_3 (s : List UInt8) {st : DkSt} (hd : st.dark = false) : Ends st (fun st' => ∃ f, fsGet st.fs freshN = some f ∧ st'.fs = fsPut st.fs ⟨freshN, f.firm ++ f.pend, []⟩) (stepF s 3 st) := by
  show Ends _ _ (dkSync st freshN)
  unfold dkSync
  rw [hd, if_neg (by simp)]
  cases h : fsGet st.fs freshN with
  | none => exact .inr (.inr ⟨by simp, by simp, rfl⟩)
  | some f => exact doing_ends hd (oth_put isM_fresh _) (get_put_ne fresh_ne_file _) ⟨f, rfl, rfl⟩
theorem ends_4 (s : List UInt8) {st : DkSt} (hd : st.dark = false) {f : FileS} (hf : fsGet st.fs freshN = some f) :
    ((stepF s 4 st).2 = 0 ∧ (stepF s 4 st).1.dark = false ∧ st.left ≠ 0 ∧ (stepF s 4 st).1.left = dec st.left ∧ (stepF s 4 st).1.fs = fsPut (fsDel st.fs freshN) ⟨fileN, f.firm, f.pend⟩) ∨ ((stepF s 4 st).2 = 45 ∧ (stepF s 4 st).1.dark = true ∧ st.left = 0 ∧ SwKeep st (stepF s 4 st).1) := by
  show ((dkRename st freshN fileN).2 = 0 ∧ _) ∨ _
  have e : stepF s 4 st = dkRename st freshN fileN := rfl
  rw [e]
  have e2 : dkRename st freshN fileN = doing st (fsPut (fsDel st.fs freshN) ⟨fileN, f.firm, f.pend⟩) := by
    unfold dkRename
    rw [hd, if_neg (by simp), hf]
    show (if !mayName fileN then _ else _) = _
    rw [show mayName fileN = true from by decide +kernel, if_neg (by simp), if_neg fresh_ne_file]
  rw [e2]
  unfold doing
  by_cases h0 : st.left = 0
  · rw [if_pos h0]; exact .inr ⟨rfl, rfl, h0, rfl, rfl⟩
  · rw [if_neg h0]; exact .inl ⟨rfl, hd, h0, rfl, rfl⟩

/-- How a swap ends. -/
def SwEnds (s : List UInt8) (st : DkSt) (r : DkSt × Int) : Prop :=
  (r.2 = 0 ∧ r.1.dark = false ∧ oth r.1.fs = oth st.fs ∧ fsGet r.1.fs fileN = some ⟨fileN, s, []⟩ ∧ fsGet r.1.fs freshN = none) ∨ (r.2 ≠ 0 ∧ SwKeep st r.1 ∧ (r.1.dark = true ↔ r.2 = 45))

theorem swapEnd_ne {c : Int} {st : DkSt} (h : c ≠ 44) : swapEnd c st = (st, c) := by unfold swapEnd; rw [if_neg h]
theorem swapEnd_full {st : DkSt} (hd : st.dark = false) : (swapEnd 44 st).2 ≠ 0 ∧ SwKeep st (swapEnd 44 st).1 ∧ ((swapEnd 44 st).1.dark = true ↔ (swapEnd 44 st).2 = 45) := by
  unfold swapEnd
  rw [if_pos rfl]
  have h := (ends_0 [] hd).1
  have e : stepF [] 0 st = dkDelete st freshN := rfl
  rw [e] at h
  rcases h with ⟨h1, h2, _, _, h3, _⟩ | ⟨h1, h2, _, h3⟩ | ⟨h1, h2, h3⟩
  · simp [h1, h2, h3]
  · simp [h1, h2, h3]
  · have hk : SwKeep st (dkDelete st freshN).1 := by rw [h3]; exact SwKeep.refl st
    have hdk : (dkDelete st freshN).1.dark = false := by rw [h3]; exact hd
    by_cases h5 : (dkDelete st freshN).2 = 5
    · simp [h5, hk, hdk]
    · simp [h1, h2, h5, hk, hdk]

theorem swap_stop {s : List UInt8} {st0 st : DkSt} {c : Int} (hc : c ≠ 0) (hk : SwKeep st0 st) (hd : (st.dark = true ↔ c = 45)) : SwEnds s st0 ((swapEnd c st).1, (swapEnd c st).2) := by
  by_cases h : c = 44
  · subst h
    have hd' : st.dark = false := by cases e : st.dark; rfl; exact absurd (hd.1 e) (by decide)
    obtain ⟨h1, h2, h3⟩ := swapEnd_full hd'
    exact .inr ⟨h1, hk.trans h2, h3⟩
  · rw [swapEnd_ne h]; exact .inr ⟨hc, hk, hd⟩

theorem swap_ends (st : DkSt) (hd : st.dark = false) (g : Int) (l : Segs) (hm : mayB g l = true) : SwEnds (Crc.seal_ (manBytes g l)) st (dkSwap st g l) := by
  unfold dkSwap
  rw [hm, if_pos rfl]
  generalize Crc.seal_ (manBytes g l) = s
  -- a step that does not end well
  have stop : ∀ (k : Nat) (r : List Nat) (st1 : DkSt) (P : DkSt → Prop), SwKeep st st1 → Ends st1 P (stepF s k st1) → st1.dark = false → (stepF s k st1).2 ≠ 0 → ¬ (k = 0 ∧ (stepF s k st1).2 = 5) → SwEnds s st ((swapEnd (swapL s (k :: r) st1).2 (swapL s (k :: r) st1).1)) := by
    intro k r st1 P hk he hd1 h0 h5
    rw [show swapL s (k :: r) st1 = stepF s k st1 from by unfold swapL; rw [if_pos ⟨h0, h5⟩]]
    rcases he with ⟨h1, _⟩ | ⟨h1, h2, _, h3⟩ | ⟨h1, h2, h3⟩
    · exact absurd h1 h0
    · exact swap_stop h0 (hk.trans h3) (by rw [h1, h2]; simp)
    · exact swap_stop h0 (by rw [h3]; exact hk) (by rw [h3, hd1]; simp [h2])
  have go : ∀ (k : Nat) (r : List Nat) (st1 : DkSt), ((stepF s k st1).2 = 0 ∨ (k = 0 ∧ (stepF s k st1).2 = 5)) → swapL s (k :: r) st1 = swapL s r (stepF s k st1).1 := by
    intro k r st1 h
    rw [swapL, if_neg (by rintro ⟨a, b⟩; rcases h with h | h; exact a h; exact b h)]
  obtain ⟨e0, e05⟩ := ends_0 s hd
  -- behind the first step
  have h0 : ((stepF s 0 st).2 = 0 ∨ (0 = 0 ∧ (stepF s 0 st).2 = 5)) ∨ ¬ ((stepF s 0 st).2 = 0 ∨ (0 = 0 ∧ (stepF s 0 st).2 = 5)) := Classical.em _
  rcases h0.symm with h0 | h0
  · exact stop 0 _ st _ (SwKeep.refl _) e0 hd (fun e => h0 (.inl e)) (fun e => h0 (.inr e))
  rw [go 0 _ st h0]
  have k0 : SwKeep st (stepF s 0 st).1 ∧ (stepF s 0 st).1.dark = false := by
    rcases e0 with ⟨_, h2, _, _, h3, _⟩ | ⟨h1, _⟩ | ⟨_, _, h3⟩
    · exact ⟨h3, h2⟩
    · rcases h0 with h | h <;> rw [h1] at h <;> simp at h
    · rw [h3]; exact ⟨SwKeep.refl _, hd⟩
  generalize (stepF s 0 st).1 = st1 at k0
  obtain ⟨k0, hd1⟩ := k0
  have e1 := ends_1 s hd1
  by_cases h1 : ¬ (stepF s 1 st1).2 = 0
  · exact stop 1 _ st1 _ k0 e1 hd1 h1 (by simp)
  have h1 := Classical.not_not.1 h1
  rw [go 1 _ st1 (.inl h1)]
  have k1 : SwKeep st (stepF s 1 st1).1 ∧ (stepF s 1 st1).1.dark = false ∧ fsGet (stepF s 1 st1).1.fs freshN = some ⟨freshN, [], []⟩ := by
    rcases e1 with ⟨_, h2, _, _, h3, h4⟩ | ⟨h, _⟩ | ⟨h, _⟩
    · exact ⟨k0.trans h3, h2, by rw [h4]; exact get_put_eq ⟨freshN, [], []⟩ _⟩
    · rw [h1] at h; cases h
    · exact absurd h1 h
  generalize (stepF s 1 st1).1 = st2 at k1
  obtain ⟨k1, hd2, g2⟩ := k1
  have e2 := ends_2 s hd2
  by_cases h2 : ¬ (stepF s 2 st2).2 = 0
  · exact stop 2 _ st2 _ k1 e2 hd2 h2 (by simp)
  have h2 := Classical.not_not.1 h2
  rw [go 2 _ st2 (.inl h2)]
  have k2 : SwKeep st (stepF s 2 st2).1 ∧ (stepF s 2 st2).1.dark = false ∧ fsGet (stepF s 2 st2).1.fs freshN = some ⟨freshN, [], s⟩ := by
    rcases e2 with ⟨_, h2, _, _, h3, f, h4, h5⟩ | ⟨h, _⟩ | ⟨h, _⟩
    · rw [g2] at h4; cases h4
      exact ⟨k1.trans h3, h2, by rw [h5]; exact get_put_eq ⟨freshN, [], s⟩ _⟩
    · rw [h2] at h; cases h
    · exact absurd h2 h
  generalize (stepF s 2 st2).1 = st3 at k2
  obtain ⟨k2, hd3, g3⟩ := k2
  have e3 := ends_3 s hd3
  by_cases h3 : ¬ (stepF s 3 st3).2 = 0
  · exact stop 3 _ st3 _ k2 e3 hd3 h3 (by simp)
  have h3 := Classical.not_not.1 h3
  rw [go 3 _ st3 (.inl h3)]
  have k3 : SwKeep st (stepF s 3 st3).1 ∧ (stepF s 3 st3).1.dark = false ∧ fsGet (stepF s 3 st3).1.fs freshN = some ⟨freshN, s, []⟩ := by
    rcases e3 with ⟨_, h2, _, _, h3, f, h4, h5⟩ | ⟨h, _⟩ | ⟨h, _⟩
    · rw [g3] at h4; cases h4
      exact ⟨k2.trans h3, h2, by rw [h5]; exact get_put_eq ⟨freshN, [] ++ s, []⟩ _⟩
    · rw [h3] at h; cases h
    · exact absurd h3 h
  generalize (stepF s 3 st3).1 = st4 at k3
  obtain ⟨k3, hd4, g4⟩ := k3
  rcases ends_4 s hd4 g4 with ⟨h1, h2, _, _, h3⟩ | ⟨h1, h2, _, h3⟩
  · rw [go 4 _ st4 (.inl h1)]
    show SwEnds s st (swapEnd 0 (stepF s 4 st4).1)
    rw [swapEnd_ne (by decide)]
    refine .inl ⟨rfl, h2, ?_, ?_, ?_⟩
    · show oth (stepF s 4 st4).1.fs = _
      rw [h3, oth_put isM_file, oth_del isM_fresh, k3.1]
    · show fsGet (stepF s 4 st4).1.fs fileN = _
      rw [h3]; exact get_put_eq ⟨fileN, s, []⟩ _
    · show fsGet (stepF s 4 st4).1.fs freshN = _
      rw [h3, get_put_ne (by exact fun e => fresh_ne_file e.symm), get_del_eq]
  · rw [show swapL s [4] st4 = stepF s 4 st4 from by unfold swapL; rw [if_pos ⟨by rw [h1]; decide, by simp⟩]]
    exact swap_stop (by rw [h1]; decide) (k3.trans h3) (by rw [h1, h2]; simp)

/-- What a crash leaves of a file. -/
def KeptOf (now was : FileS) : Prop := now.name = was.name ∧ now.pend = [] ∧ ∃ k, k ≤ was.pend.length ∧ now.firm = was.firm ++ was.pend.take k
inductive Pairs : Fs → Fs → Prop
  | nil : Pairs [] []
  | cons {a b : FileS} {r s : Fs} (h : KeptOf a b) (t : Pairs r s) : Pairs (a :: r) (b :: s)

theorem kept_le (k : Int) (m : Nat) : kept k m ≤ m := by
  unfold kept
  have := Int.emod_lt_of_pos (k % 18446744073709551616) (show (0 : Int) < (m : Int) + 1 from by omega)
  have := Int.emod_nonneg (k % 18446744073709551616) (show (m : Int) + 1 ≠ 0 from by omega)
  omega

theorem crash_step (ks : List Int) (f : FileS) (r : Fs) : ∃ f' ks', crashFs ks (f :: r) = f' :: crashFs ks' r ∧ KeptOf f' f ∧ (f.pend = [] → f' = f) := by
  by_cases h : f.pend = []
  · exact ⟨f, ks, crash_firm h, ⟨rfl, h, 0, by omega, by simp⟩, fun _ => rfl⟩
  · cases ks with
    | nil => exact ⟨_, [], crash_none h, ⟨rfl, rfl, 0, by omega, by simp⟩, fun e => absurd e h⟩
    | cons k t => exact ⟨_, t, crash_some h, ⟨rfl, rfl, _, kept_le k _, rfl⟩, fun e => absurd e h⟩
theorem crash_nil (ks : List Int) : crashFs ks [] = [] := by cases ks <;> rfl

theorem crash_pairs (fs : Fs) : ∀ ks, Pairs (oth (crashFs ks fs)) (oth fs) := by
  induction fs with
  | nil => intro ks; rw [crash_nil]; exact .nil
  | cons f r ih =>
    intro ks
    obtain ⟨f', ks', e, hk, _⟩ := crash_step ks f r
    rw [e]
    cases h : isM f.name
    · rw [oth_cons_out h, oth_cons_out (by rw [hk.1]; exact h)]; exact .cons hk (ih ks')
    · rw [oth_cons_in h, oth_cons_in (by rw [hk.1]; exact h)]; exact ih ks'
theorem crash_get_none {n : List UInt8} (fs : Fs) : ∀ ks, fsGet fs n = none → fsGet (crashFs ks fs) n = none := by
  induction fs with
  | nil => intro ks h; rw [crash_nil]; exact h
  | cons f r ih =>
    intro ks h
    obtain ⟨f', ks', e, hk, _⟩ := crash_step ks f r
    rw [e]
    by_cases hn : f.name = n
    · subst hn; rw [get_cons_eq] at h; cases h
    · rw [get_cons_ne hn] at h; rw [get_cons_ne (by rw [hk.1]; exact hn)]; exact ih ks' h
theorem crash_get_firm {n : List UInt8} {f0 : FileS} (h0 : f0.pend = []) (fs : Fs) : ∀ ks, fsGet fs n = some f0 → fsGet (crashFs ks fs) n = some f0 := by
  induction fs with
  | nil => intro ks h; rw [crash_nil]; exact h
  | cons f r ih =>
    intro ks h
    obtain ⟨f', ks', e, hk, he⟩ := crash_step ks f r
    rw [e]
    by_cases hn : f.name = n
    · subst hn; rw [get_cons_eq] at h; cases h; rw [he h0, get_cons_eq]
    · rw [get_cons_ne hn] at h; rw [get_cons_ne (by rw [hk.1]; exact hn)]; exact ih ks' h
end Go.Proofs.YtcdjckdbcffgdaaGreatDoor

/- Contracts of manif in one form each, and what a swap and a crash leave, in one law: whatever the law. -/
namespace Go.Proofs.YtcdjckdbcffgdaaGreatDoor
open Go.RowKit Go.Maps Go.Sort

theorem sealed_seal (l : List UInt8) : Sealed (Crc.seal_ l) := by
  refine ⟨by rw [Crc.seal_length]; omega, ?_⟩
  rw [Crc.seal_length, show l.length + 4 - 4 = l.length from by omega]
  unfold Crc.seal_
  rw [List.take_left']
  rfl
theorem read_seal (w : World) (s : ByteArray) (g : Int) (l : Segs) (hs : s.data.toList = Crc.seal_ (manBytes g l)) (hm : mayB g l = true) :
    Calls Tryz.prog 119 #[.string s] w fun e w' => Below w.heap.size w w' ∧ ∃ v, OwnSegs w' v l ∧ (∀ b, v.ownBlock = some b → w.heap.size ≤ b) ∧ e = .returned (.tuple #[.agg #[.int .i64 g, v], .int .i64 0]) := by
  obtain ⟨_, _, _, hl1, _⟩ := mayB_all hm
  have hsz : s.size = 18 + 16 * l.length := by rw [size_of_list hs, Crc.seal_length, manBytes_length]; omega
  refine (read_any s w (by omega) (by rw [hs]; exact sealed_seal _) (manBytes g l) (by rw [hs, hsz]; unfold Crc.seal_; rw [List.take_left']; rw [manBytes_length]; omega)).mono ?_
  intro e w' h
  unfold ReadPost at h
  rw [parse_make hm] at h
  exact h



def ReadLaw (s : ByteArray) (w : World) (e : Ending) (w' : World) : Prop :=
  Below w.heap.size w w' ∧ ((∃ c : Int, c ≠ 0 ∧ e = .returned (.tuple #[noMan, .int .i64 c])) ∨
    ∃ (g : Int) (l : Segs) (v : Value), mayB g l = true ∧ s.data.toList = Crc.seal_ (manBytes g l) ∧ OwnSegs w' v l ∧ e = .returned (.tuple #[.agg #[.int .i64 g, v], .int .i64 0]))

theorem read_law (s : ByteArray) (w : World) (hs : s.size ≤ 1099511627776) : Calls Tryz.prog 119 #[.string s] w fun e w' => ReadLaw s w e w' := by
  by_cases h4 : s.size < 4
  · refine (read_short s w h4).mono ?_
    intro e w' h
    exact ⟨h.2, .inl ⟨_, by decide, h.1⟩⟩
  · by_cases hS : Sealed s.data.toList
    · refine (read_any s w hs hS _ rfl).mono ?_
      intro e w' h
      unfold ReadPost at h
      obtain ⟨hb, h⟩ := h
      refine ⟨hb, ?_⟩
      cases hp : parseMan (s.data.toList.take (s.size - 4)) with
      | none => rw [hp] at h; exact .inl ⟨_, by decide, h⟩
      | some q =>
        obtain ⟨g, l⟩ := q
        rw [hp] at h
        obtain ⟨v, hv, _, he⟩ := h
        obtain ⟨hm, hb2⟩ := make_parse hp
        refine .inr ⟨g, l, v, hm, ?_, hv, he⟩
        rw [hb2]
        have := hS.2
        rw [size_toList] at this
        exact this.symm
    · refine (read_sum s w (by omega) (by unfold maxLen; omega) hS).mono ?_
      intro e w' h
      exact ⟨h.2, .inl ⟨_, by decide, h.1⟩⟩


theorem OwnSegs.pure {w w' : World} {v : Value} {l : Segs} (h : OwnSegs w v l) (hb : Below w.heap.size w w') : OwnSegs w' v l := (Fr.pure (S := fun _ => False) hb).ownsRow h (fun _ _ h => h)
theorem may_len {g : Int} {l : Segs} (h : mayB g l = true) : l.length ≤ 64 := (mayB_all h).2.2.2.1


def wantL (g : Int) (m : Segs) : List UInt8 := if mayB g m then Crc.seal_ (manBytes g m) else []
def wantC (g : Int) (m : Segs) : Int := if mayB g m then 0 else 4

theorem make_any (w : World) (g : Int) (sv : Value) (l : Segs) (hs : SegsAt w sv l) (hl : l.length ≤ 1099511627776) :
    Calls Tryz.prog 92 #[.agg #[.int .i64 g, sv]] w fun e w' => TextPost (wantL g l, wantC g l) w e w' := by
  unfold wantL wantC
  cases hm : mayB g l
  · exact (make_bad w g sv l hs hl hm).mono fun e w' ⟨h1, h2⟩ => ⟨⟨⟨#[]⟩, rfl, h1⟩, h2⟩
  · exact (make_ok w g sv l hs hm).mono fun e w' ⟨r, h1, h2, h3⟩ => ⟨⟨r, h1, h2⟩, h3⟩
theorem swap_any (w : World) (p b : Nat) (st : DkSt) (h : IsDk w p b st) (g : Int) (sv : Value) (l : Segs) (hs : SegsAt w sv l) (hl : l.length ≤ 1099511627776) :
    Calls Tryz.prog 46 #[.pointer (some ⟨p, 0, none⟩), .agg #[.int .i64 g, sv]] w fun e w' => OpPost p b (dkSwap st g l) w e w' := by
  cases hm : mayB g l
  · refine (swap_bad w p g sv l hs hl hm).mono fun e w' ⟨h1, h2⟩ => ?_
    rw [show dkSwap st g l = (st, 4) from by unfold dkSwap; rw [hm]; rfl]
    exact ⟨h1, h.pure h2, Fr.pure h2⟩
  · exact swap_ok w p b st h g sv l hs hl hm

/-- A manifest, told with a code. -/
def ManPost (P : Int → Segs → Int → Prop) (w : World) (e : Ending) (w' : World) : Prop :=
  Below w.heap.size w w' ∧ ∃ cd g l v, P g l cd ∧ OwnSegs w' v l ∧ (∀ b, v.ownBlock = some b → w.heap.size ≤ b) ∧ e = .returned (.tuple #[.agg #[.int .i64 g, v], .int .i64 cd])

set_option maxRecDepth 100000 in
set_option maxHeartbeats 1000000 in
theorem load_any (w : World) (p b : Nat) (st : DkSt) (h : IsDk w p b st) (P : Int → Segs → Int → Prop)
    (hrd : (dkRead st fileN).2 = 0 → ∀ (s : ByteArray) (W : World), s.data.toList = (dkRead st fileN).1 → Calls Tryz.prog 119 #[.string s] W (ManPost P W)) (hno : (dkRead st fileN).2 ≠ 0 → P 0 [] (dkRead st fileN).2) :
    Calls Tryz.prog 63 #[.pointer (some ⟨p, 0, none⟩)] w (ManPost P w) := by
  have H := Lib.hid h
  have HR := Lib.hid hrd
  have HN := Lib.hid hno
  clear h hrd hno
  go_enter Tryz.func63, Tryz.ntmps63
  go_wp2_with fail
  refine (show Calls Tryz.prog 117 #[.pointer (some ⟨p, 0, none⟩), .string ⟨#[77, 65, 78, 73, 70, 69, 83, 84]⟩] _ fun e w' => TextPost (dkRead st fileN) _ e w' from dk_read _ p b st (H.out.pure ((Below.refl _ _).alloc (Nat.le_refl _) _)) ⟨#[77, 65, 78, 73, 70, 69, 83, 84]⟩ (by decide)).mono ?_
  rintro e w1 ⟨⟨s, hs, rfl⟩, hb1⟩
  have HS := Lib.hid hs
  have B1 := Lib.hid ((((Below.refl w.heap.size w).alloc (Nat.le_refl _) _)).trans (hb1.mono (by simp)))
  have hbox : w1.heap[w.heap.size]? = some (.cells #[.int .i64 0, .slice none 0 0] 38 (0, 0)) := (hb1.block _ (by simp)).trans (alloc_at_top _ _ rfl)
  clear hs hb1
  obtain ⟨cd, hcd⟩ : ∃ cd, cd = (dkRead st fileN).2 := ⟨_, rfl⟩
  rw [← hcd]
  have HCD := Lib.hid hcd
  clear hcd
  have c0 : w1.cell? ⟨w.heap.size, 0, none⟩ = some (.int .i64 0) := by rw [cell_of_row _ _ _ _ _ _ hbox]; rfl
  have c1 : w1.cell? ⟨w.heap.size, 1, none⟩ = some (.slice none 0 0) := by rw [cell_of_row _ _ _ _ _ _ hbox]; rfl
  have z : ∀ j : Nat, w1.frozen? ⟨w.heap.size, j, none⟩ = false := fun j => frozen_of_row _ _ _ _ _ hbox
  by_cases h0 : cd = 0
  · obtain rfl : cd = 0 := h0
    have HBX := Lib.hid hbox
    clear hbox
    go_wp2_with fail
    refine (HR.out (by rw [← HCD.out]) s w1 HS.out).mono ?_
    rintro e w2 ⟨hb2, cd, g, l, v, hP, hv, hvb, rfl⟩
    have B2 := Lib.hid (B1.out.trans (hb2.mono B1.out.size))
    have HQ := Lib.hid (And.intro hP (And.intro hv hvb))
    have hlt : w.heap.size < w1.heap.size := lt_of_block HBX.out
    have hbox := (hb2.block _ hlt).trans HBX.out
    obtain ⟨a2, n2, c2, rfl⟩ := own_shape hv
    have e0 : w2.cell? ⟨w.heap.size, 0, none⟩ = some (.int .i64 0) := by rw [cell_of_row _ _ _ _ _ _ hbox]; rfl
    have e1 : w2.cell? ⟨w.heap.size, 1, none⟩ = some (.slice none 0 0) := by rw [cell_of_row _ _ _ _ _ _ hbox]; rfl
    have z2 : ∀ j : Nat, w2.frozen? ⟨w.heap.size, j, none⟩ = false := fun j => frozen_of_row _ _ _ _ _ hbox
    clear hb2 hP hv hvb hbox c0 c1 z
    go_wp2
    refine bodyPost_ret (v := .tuple #[.agg #[.int .i64 g, .slice a2 n2 c2], .int .i64 cd]) (by simp [results, Tryz.results63, go_sem, e0, e1]) rfl ⟨?_, cd, g, l, _, HQ.out.1, ?_, fun j e => ?_, rfl⟩
    · exact (B2.out.setCell (p := ⟨w.heap.size, 0, none⟩) (Nat.le_refl _) _).setCell (p := ⟨w.heap.size, 1, none⟩) (Nat.le_refl _) _
    · have hf := HQ.out.2.2
      exact ownsRow_setCell_other (ownsRow_setCell_other HQ.out.2.1 (fun e => by have := hf _ e; simp at this; omega) _) (fun e => by have := hf _ e; simp at this; omega) _
    · have := HQ.out.2.2 j e; omega
  · go_wp2
    refine bodyPost_ret (v := .tuple #[.agg #[.int .i64 0, .slice none 0 0], .int .i64 cd]) (by simp [results, Tryz.results63, go_sem, c0, c1]) rfl ⟨?_, cd, 0, [], .slice none 0 0, ?_, World.ownsRow_nil _ _ _ _, (fun j e => by cases e), rfl⟩
    · exact (B1.out.setCell (p := ⟨w.heap.size, 0, none⟩) (Nat.le_refl _) _).setCell (p := ⟨w.heap.size, 1, none⟩) (Nat.le_refl _) _
    · rw [HCD.out]; exact HN.out (by rw [← HCD.out]; exact h0)

theorem load_seal (w : World) (p b : Nat) (st : DkSt) (h : IsDk w p b st) (g : Int) (l : Segs) (hr : dkRead st fileN = (Crc.seal_ (manBytes g l), 0)) (hm : mayB g l = true) :
    Calls Tryz.prog 63 #[.pointer (some ⟨p, 0, none⟩)] w (ManPost (fun g' l' cd => g' = g ∧ l' = l ∧ cd = 0) w) :=
  load_any w p b st h _ (fun _ s W hs => (read_seal W s g l (by rw [hs, hr]) hm).mono fun e w' ⟨hb, v, h1, h2, h3⟩ => ⟨hb, 0, g, l, v, ⟨rfl, rfl, rfl⟩, h1, h2, h3⟩) (fun h => absurd (by rw [hr]) h)

/-! ### What a swap and a crash leave -/
theorem load_cases (cp : Int) (l : Fs) : (∃ c, (c == 0) = false ∧ c ≠ 0 ∧ dkLoad cp l = (none, c)) ∨ (dkLoad cp l = (some ⟨l, cp, -1, false⟩, 0)) := by
  unfold dkLoad
  split
  · exact .inl ⟨1, by decide, by decide, rfl⟩
  · split
    · exact .inl ⟨4, by decide, by decide, rfl⟩
    · split
      · exact .inl ⟨44, by decide, by decide, rfl⟩
      · exact .inr rfl

/-- What a swap ended with leaves behind a crash: c: what it told; want: the new bytes. -/
structure WhEnd (l : Fs) (old : List UInt8 × Int) (want : List UInt8) (c : Int) (st2 st3 : DkSt) (now : List UInt8 × Int) : Prop where
  up : st2.dark = (c == 45)
  fresh : c = 0 → now.2 = 0 ∧ now.1 = want
  stale : c ≠ 0 → now = old
  rest : Pairs (oth st3.fs) (oth l)

theorem wh_end (st0 st1 : DkSt) (l : Fs) (hl : st0.fs = l) (h1 : st1.fs = l) (hd0 : st0.dark = false) (hd : st1.dark = false) (g : Int) (m : Segs) (ks : List Int) (hn : ∀ f, fsGet l fileN = some f → f.pend = []) :
    WhEnd l (dkRead st0 fileN) (wantL g m) (dkSwap st1 g m).2 (dkSwap st1 g m).1 (dkCrash (dkSwap st1 g m).1 ks) (dkRead (dkCrash (dkSwap st1 g m).1 ks) fileN) := by
  have hold : ∀ (st : DkSt), SwKeep st1 st → dkRead (dkCrash st ks) fileN = dkRead st0 fileN := by
    intro st hk
    have e1 : fsGet st.fs fileN = fsGet l fileN := by rw [hk.2, h1]
    unfold dkRead dkCrash
    rw [hd0, hl]
    cases hg : fsGet l fileN with
    | none => rw [hg] at e1; simp only [crash_get_none st.fs ks e1]
    | some f => rw [hg] at e1; simp only [crash_get_firm (hn f hg) st.fs ks e1]
  have hpairs : ∀ (st : DkSt), oth st.fs = oth st1.fs → Pairs (oth (dkCrash st ks).fs) (oth l) := by
    intro st hk
    have := crash_pairs st.fs ks
    rw [hk, h1] at this; exact this
  cases hm : mayB g m
  · rw [show dkSwap st1 g m = (st1, 4) from by unfold dkSwap; rw [hm]; rfl]
    exact ⟨hd, (fun h => by cases h), fun _ => hold st1 (SwKeep.refl _), hpairs st1 rfl⟩
  · have hw : wantL g m = Crc.seal_ (manBytes g m) := by unfold wantL; rw [hm]; rfl
    rw [hw]
    rcases swap_ends st1 hd g m hm with ⟨e1, e2, e3, e4, e5⟩ | ⟨e1, e2, e3⟩
    · refine ⟨by rw [e1, e2]; rfl, fun _ => ?_, fun h => absurd e1 h, hpairs _ e3⟩
      have : dkRead (dkCrash (dkSwap st1 g m).1 ks) fileN = (Crc.seal_ (manBytes g m), 0) := by
        unfold dkRead dkCrash
        simp only [crash_get_firm (f0 := ⟨fileN, Crc.seal_ (manBytes g m), []⟩) rfl _ ks e4, List.append_nil]
        rfl
      rw [this]; exact ⟨rfl, rfl⟩
    · refine ⟨?_, fun h => absurd h e1, fun _ => hold _ e2, hpairs _ e2.1⟩
      by_cases hc : (dkSwap st1 g m).2 = 45
      · rw [hc, e3.2 hc]; rfl
      · have : (dkSwap st1 g m).1.dark = false := by cases e : (dkSwap st1 g m).1.dark; rfl; exact absurd (e3.1 e) hc
        rw [this]; simpa using hc
/-- Without a cut: the new manifest is there, and no other. -/
theorem wh_now (st1 : DkSt) (hd : st1.dark = false) (g : Int) (m : Segs) (hc : (dkSwap st1 g m).2 = 0) : mayB g m = true ∧ dkRead (dkSwap st1 g m).1 fileN = (Crc.seal_ (manBytes g m), 0) ∧ dkRead (dkSwap st1 g m).1 freshN = ([], 5) := by
  cases hm : mayB g m
  · rw [show dkSwap st1 g m = (st1, 4) from by unfold dkSwap; rw [hm]; rfl] at hc; cases hc
  · rcases swap_ends st1 hd g m hm with ⟨e1, e2, e3, e4, e5⟩ | ⟨e1, e2, e3⟩
    · refine ⟨rfl, ?_, ?_⟩ <;> unfold dkRead <;> simp [e2, e4, e5]
    · exact absurd hc e1
end Go.Proofs.YtcdjckdbcffgdaaGreatDoor

/- The walk of slices.Clone at a manifest's segments. -/
namespace Go.Proofs.YtcdjckdbcffgdaaGreatDoor
open Go.RowKit Go.Sort

theorem seg_one {l : Segs} {u : Value} (h : u ∈ segCells l) : u.oneCell' = true := by
  unfold segCells at h
  obtain ⟨x, _, hx⟩ := List.mem_flatMap.1 h
  simp at hx
  rcases hx with rfl | rfl <;> rfl
theorem seg_cells {w : World} {b o c n : Nat} {l : Segs} (h : SegsAt w (.slice (some ⟨b, o, none⟩) n c) l) {j : Nat} {u : Value} (hj : (segCells l)[j]? = some u) : w.cell? ⟨b, o + j, none⟩ = some u := by
  have hlt : j < (segCells l).length := by rw [List.getElem?_eq_some_iff] at hj; exact hj.1
  rw [segCells_length] at hlt
  obtain ⟨b', o', e, h1, h2, _⟩ := h.at (j / 2) (by omega)
  cases e
  obtain ⟨g1, g2⟩ := segCells_get l (j / 2) (by omega)
  rcases (show j = j / 2 * 2 ∨ j = j / 2 * 2 + 1 from by omega) with e | e
  · rw [e, g1] at hj
    rw [e, h1]; exact hj
  · rw [e, g2] at hj
    rw [show o + j = o + j / 2 * 2 + 1 from by omega, h2]; exact hj

set_option maxRecDepth 100000 in
set_option maxHeartbeats 1000000 in
theorem clone_segs (w : World) (sv : Value) (l : Segs) (hs : SegsAt w sv l) (h0 : 0 < l.length) (hl : l.length ≤ 1000000) :
    Calls Tryz.prog 52 #[sv] w fun e w' => ∃ v, e = .returned v ∧ OwnSegs w' v l ∧ (∀ b, v.ownBlock = some b → w.heap.size ≤ b) ∧ Below w.heap.size w w' := by
  obtain ⟨a, c, rfl⟩ := hs.shape
  obtain ⟨b, o, rfl, _, _, hbl⟩ := hs.at 0 h0
  have HS := Lib.hid hs
  clear hs
  have hq : ∀ w, (binOp .eql 36 (.slice (some ⟨b, o, none⟩) l.length c) (.slice none 0 0)).run Tryz.prog w = .ok (.bool false) w := fun w => by have := Lib.run_eql_slice_nil (P := Tryz.prog) w 36 _ (some ⟨b, o, none⟩) l.length c 0 0 Tryz.underlying36; exact this
  go_enter Tryz.func52, Tryz.ntmps52
  have hrow : (w.alloc (.cells #[] 76)).ownsRow w.heap.size 76 2 (.slice (some ⟨w.heap.size, 0, none⟩) 0 0) 0 [] := ⟨rfl, .inr ⟨w.heap.size, 0, #[], rfl, Nat.le_refl _, alloc_at_top _ _ rfl, by omega, by simp, rfl, rfl⟩⟩
  have HR := Lib.hid hrow
  have HN := Lib.hid (show ∀ j u, (segCells l)[j]? = some u → (w.alloc (.cells #[] 76)).cell? ((⟨b, o, none⟩ : Addr).add j) = some u from fun j u hj => by
    rw [show (⟨b, o, none⟩ : Addr).add j = ⟨b, o + j, none⟩ from by unfold Addr.add; split <;> simp_all, World.cell?_alloc_past _ _ _ hbl]
    exact seg_cells HS.out hj)
  have HL := Lib.hid (segCells_length l)
  obtain ⟨i0, hi, hz0, hz1, hz2⟩ := info_parts Tryz.infoEntry
  have HI := Lib.hid hi
  have HZ0 := Lib.hid hz0
  have HZ1 := Lib.hid hz1
  have HZ2 := Lib.hid hz2
  clear hi hz0 hz1 hz2 hrow
  go_wp2_with (first
    | (refine wpList_append_lies _ rfl _ _ 36 rfl w.heap.size 76 i0 _ 2 16 Tryz.underlying36 HI.out HZ0.out HZ1.out HZ2.out rfl (by omega) _ 0 [] rfl HR.out ⟨b, o, none⟩ l.length c (segCells l) rfl HL.out HN.out (fun u hu => seg_one hu) h0 (by unfold maxLen; omega) (by omega) (by simp) (w.heap.size + 1) (by simp) ?_; intro gg cap w8 hown8 hgrow8 hat8 hlt8))
  simp only [Nat.zero_add, List.nil_append] at hown8 ⊢
  go_ret
  exact ⟨_, rfl, ownsRow_base hown8 (fun _ _ => Nat.zero_le _), fun j e => own_ge hown8 e, ((Below.refl _ _).alloc (Nat.le_refl _) _).grown hgrow8 (by simp) (fun j e => by cases e; exact Nat.le_refl _)⟩

end Go.Proofs.YtcdjckdbcffgdaaGreatDoor
