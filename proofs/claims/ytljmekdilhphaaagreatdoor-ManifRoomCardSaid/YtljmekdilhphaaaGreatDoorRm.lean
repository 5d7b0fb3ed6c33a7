/- The walk of the law ManifRoom. -/
import Derived.Test.YtljmekdilhphaaaGreatDoorWhx
import Derived.Test.YtljmekdilhphaaaGreatDoorDk13
namespace Go.Proofs.YtljmekdilhphaaaGreatDoor
open Go.RowKit Go.Maps Go.Sort

theorem ins_del {f : FileS} {fs : Fs} (h : fsGet fs f.name = none) : fsDel (fsIns f fs) f.name = fs := by
  induction fs with
  | nil => unfold fsIns fsDel; simp
  | cons g r ih =>
    have hg : g.name ≠ f.name := fun e => by rw [← e, get_cons_eq] at h; cases h
    rw [get_cons_ne hg] at h
    have hk : ∀ (l : Fs), fsDel (g :: l) f.name = g :: fsDel l f.name := fun l => by unfold fsDel; rw [List.filter_cons, show (g.name == f.name) = false from by simpa using hg]; rfl
    unfold fsIns
    split
    · rw [show fsDel (f :: g :: r) f.name = fsDel (g :: r) f.name from by unfold fsDel; rw [List.filter_cons, show (f.name == f.name) = true from by simp]; rfl, hk, del_none h]
    · rw [hk, ih h]

/-- The disk without MANIFEST.new. -/
def noFresh (st : DkSt) : DkSt := { st with fs := fsDel st.fs freshN }
def roomFor (st : DkSt) (m : Segs) : Prop := (18 : Int) + 16 * (m.length : Int) ≤ st.cap - (used (noFresh st).fs : Int) ∧ 1 ≤ 64 - ((noFresh st).fs.length : Int)

theorem delete_fresh (st : DkSt) (hd : st.dark = false) (hl : st.left = -1) : (dkDelete st freshN).1 = noFresh st ∧ ((dkDelete st freshN).2 = 0 ∨ (dkDelete st freshN).2 = 5) := by
  unfold dkDelete noFresh
  rw [hd]
  cases h : fsGet st.fs freshN with
  | none => simp only [Bool.false_eq_true, if_false]; rw [del_none h, ← hd]; simp
  | some f => simp only [Bool.false_eq_true, if_false]; unfold doing; rw [if_neg (by rw [hl]; decide), hl]; simp [dec, hd]

theorem swap_room (st : DkSt) (hd : st.dark = false) (hl : st.left = -1) (g : Int) (m : Segs) (hm : mayB g m = true) : (roomFor st m → (dkSwap st g m).2 = 0 ∧ (dkSwap st g m).1.dark = false) ∧ (¬ roomFor st m → dkSwap st g m = (noFresh st, 44)) := by
  obtain ⟨_, _, _, hml, _⟩ := mayB_all hm
  have hlen : (Crc.seal_ (manBytes g m)).length = 18 + 16 * m.length := by rw [Crc.seal_length, manBytes_length]; omega
  obtain ⟨d1, d2⟩ := delete_fresh st hd hl
  have hs : dkSwap st g m = (swapEnd (swapL (Crc.seal_ (manBytes g m)) [0, 1, 2, 3, 4] st).2 (swapL (Crc.seal_ (manBytes g m)) [0, 1, 2, 3, 4] st).1) := by unfold dkSwap; rw [hm]; rfl
  generalize Crc.seal_ (manBytes g m) = s at hs hlen
  have hn0 : fsGet (noFresh st).fs freshN = none := get_del_eq _ _
  have e0 : swapL s [0, 1, 2, 3, 4] st = swapL s [1, 2, 3, 4] (noFresh st) := by
    rw [swapL, if_neg (by rintro ⟨a, b⟩; rcases d2 with h | h; exact a h; exact b ⟨rfl, h⟩)]
    show swapL s [1, 2, 3, 4] (dkDelete st freshN).1 = _
    rw [d1]
  have hdn : (noFresh st).dark = false := hd
  have hln : (noFresh st).left = -1 := hl
  have hcn : (noFresh st).cap = st.cap := rfl
  unfold roomFor
  rw [hs, e0, ← hcn]
  generalize noFresh st = sn at *
  have hdel : ∀ st' : DkSt, st'.dark = false → fsGet st'.fs freshN = none → swapEnd 44 st' = (st', 44) := by
    intro st' h1 h2
    have : dkDelete st' freshN = (st', 5) := by unfold dkDelete; rw [h1, h2]; rfl
    unfold swapEnd; rw [if_pos rfl, this]; rfl
  by_cases h1 : 64 ≤ sn.fs.length
  · have e1 : stepF s 1 sn = (sn, 44) := by
      show dkCreate sn freshN = _
      unfold dkCreate
      rw [hdn, hn0, show mayName freshN = true from by decide +kernel]
      simp [h1]
    have e2 : swapL s [1, 2, 3, 4] sn = (sn, 44) := by rw [swapL, e1]; rfl
    rw [e2]
    refine ⟨fun h => by omega, fun _ => hdel sn hdn hn0⟩
  · have e1 : stepF s 1 sn = ({ sn with fs := fsPut sn.fs ⟨freshN, [], []⟩ }, 0) := by
      show dkCreate sn freshN = _
      unfold dkCreate doing
      rw [hdn, hn0, show mayName freshN = true from by decide +kernel, hln]
      simp [h1, dec]
    have e2 : swapL s [1, 2, 3, 4] sn = swapL s [2, 3, 4] { sn with fs := fsPut sn.fs ⟨freshN, [], []⟩ } := by rw [swapL, e1]; rfl
    rw [e2]
    have hu : used (fsPut sn.fs ⟨freshN, [], []⟩) = used sn.fs := by rw [used_put, del_none hn0]; simp
    have hg : fsGet (fsPut sn.fs ⟨freshN, [], []⟩) freshN = some ⟨freshN, [], []⟩ := get_put_eq ⟨freshN, [], []⟩ _
    by_cases h2 : sn.cap - (used sn.fs : Int) < (s.length : Int)
    · have e3 : stepF s 2 { sn with fs := fsPut sn.fs ⟨freshN, [], []⟩ } = ({ sn with fs := fsPut sn.fs ⟨freshN, [], []⟩ }, 44) := by
        show dkAppend _ freshN s = _
        unfold dkAppend
        simp only [hdn, hg, hu, Bool.false_eq_true, if_false]
        rw [if_pos (.inr h2)]
      have e4 : swapL s [2, 3, 4] { sn with fs := fsPut sn.fs ⟨freshN, [], []⟩ } = ({ sn with fs := fsPut sn.fs ⟨freshN, [], []⟩ }, 44) := by rw [swapL, e3]; rfl
      rw [e4]
      refine ⟨fun h => by omega, fun _ => ?_⟩
      have : dkDelete { sn with fs := fsPut sn.fs ⟨freshN, [], []⟩ } freshN = (sn, 0) := by
        unfold dkDelete doing
        simp only [hdn, hg, hln, Bool.false_eq_true, if_false]
        rw [if_neg (by decide)]
        have e9 : fsDel (fsPut sn.fs ⟨freshN, [], []⟩) freshN = sn.fs := by
          unfold fsPut
          rw [show fsDel sn.fs (FileS.name ⟨freshN, [], []⟩) = sn.fs from del_none hn0]
          exact ins_del (f := ⟨freshN, [], []⟩) hn0
        rw [e9]
        obtain ⟨a, b, c, d⟩ := sn
        simp only at hdn hln
        subst hdn hln
        rfl
      unfold swapEnd
      rw [if_pos rfl, this]; rfl
    · refine ⟨fun _ => ?_, fun h => absurd ⟨by omega, by omega⟩ h⟩
      have e3 : stepF s 2 { sn with fs := fsPut sn.fs ⟨freshN, [], []⟩ } = ({ sn with fs := fsPut (fsPut sn.fs ⟨freshN, [], []⟩) ⟨freshN, [], s⟩ }, 0) := by
        show dkAppend _ freshN s = _
        unfold dkAppend
        simp only [hdn, hg, hu, hln, Bool.false_eq_true, if_false]
        rw [if_neg (by rintro (h | h); simp at h; omega; exact h2 h), if_neg (by decide)]
        simp [dec]
      have hg2 : fsGet (fsPut (fsPut sn.fs ⟨freshN, [], []⟩) ⟨freshN, [], s⟩) freshN = some ⟨freshN, [], s⟩ := get_put_eq ⟨freshN, [], s⟩ _
      have e4 : stepF s 3 { sn with fs := fsPut (fsPut sn.fs ⟨freshN, [], []⟩) ⟨freshN, [], s⟩ } = ({ sn with fs := fsPut (fsPut (fsPut sn.fs ⟨freshN, [], []⟩) ⟨freshN, [], s⟩) ⟨freshN, s, []⟩ }, 0) := by
        show dkSync _ freshN = _
        unfold dkSync doing
        simp only [hdn, hg2, hln, Bool.false_eq_true, if_false]
        rw [if_neg (by decide)]
        simp [dec]
      have hg3 : fsGet (fsPut (fsPut (fsPut sn.fs ⟨freshN, [], []⟩) ⟨freshN, [], s⟩) ⟨freshN, s, []⟩) freshN = some ⟨freshN, s, []⟩ := get_put_eq ⟨freshN, s, []⟩ _
      rw [swapL, e3, if_neg (by simp), swapL, e4, if_neg (by simp)]
      rcases ends_4 s (st := { sn with fs := fsPut (fsPut (fsPut sn.fs ⟨freshN, [], []⟩) ⟨freshN, [], s⟩) ⟨freshN, s, []⟩ }) hdn hg3 with ⟨k1, k2, _⟩ | ⟨_, _, k3, _⟩
      · rw [swapL, if_neg (by rw [k1]; simp)]
        show (swapEnd 0 _).2 = 0 ∧ (swapEnd 0 _).1.dark = false
        rw [swapEnd_ne (by decide)]
        exact ⟨rfl, k2⟩
      · rw [show ({ sn with fs := fsPut (fsPut (fsPut sn.fs ⟨freshN, [], []⟩) ⟨freshN, [], s⟩) ⟨freshN, s, []⟩ } : DkSt).left = sn.left from rfl, hln] at k3; exact absurd k3 (by decide)

end Go.Proofs.YtljmekdilhphaaaGreatDoor
