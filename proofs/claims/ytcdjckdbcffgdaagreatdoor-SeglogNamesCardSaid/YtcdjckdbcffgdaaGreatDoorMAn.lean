/- The walk of the law ManifRoom. -/
import Derived.Test.YtcdjckdbcffgdaaGreatDoorMAl
import Derived.Test.YtcdjckdbcffgdaaGreatDoorMCf
import Derived.Test.YtcdjckdbcffgdaaGreatDoorMAm
namespace Go.Proofs.YtcdjckdbcffgdaaGreatDoor
open Go.RowKit Go.Maps Go.Sort

theorem ins_del {f : FileS} {fs : Fs} (h : fsGet fs f.name = none) : fsDel (fsIns f fs) f.name = fs := by
  induction fs with
  | nil => unfold fsIns fsDel; simp
  | cons g r ih =>
    have hg : g.name ≠ f.name := fun e => by rw [← e, get_cons_eq] at h; cases h
    rw [get_cons_ne hg] at h
    have hk : ∀ (l : Fs), fsDel (g :: l) f.name = g :: fsDel l f.name := fun l => by unfold fsDel; rw [List.filter_cons, show (g.name == f.name) = false from by simpa using hg]; rfl
    unfold fsIns
    split
    · rw [show fsDel (f :: g :: r) f.name = fsDel (g :: r) f.name from by unfold fsDel; rw [List.filter_cons, show (f.name == f.name) = true from by simp]; rfl, hk, del_none h]
    · rw [hk, ih h]

/-- The disk without MANIFEST.new. -/
def noFresh (st : DkSt) : DkSt := { st with fs := fsDel st.fs freshN }
def roomFor (st : DkSt) (m : Segs) : Prop := (18 : Int) + 16 * (m.length : Int) ≤ st.cap - (used (noFresh st).fs : Int) ∧ 1 ≤ 64 - ((noFresh st).fs.length : Int)

theorem delete_fresh (st : DkSt) (hd : st.dark = false) (hl : st.left = -1) : (dkDelete st freshN).1 = noFresh st ∧ ((dkDelete st freshN).2 = 0 ∨ (dkDelete st freshN).2 = 5) := by
  unfold dkDelete noFresh
  rw [hd]
  cases h : fsGet st.fs freshN with
  | none => simp only [Bool.false_eq_true, if_false]; rw [del_none h, ← hd]; simp
  | some f => simp only [Bool.false_eq_true, if_false]; unfold doing; rw [if_neg (by rw [hl]; decide), hl]; simp [dec, hd]

theorem swap_room (st : DkSt) (hd : st.dark = false) (hl : st.left = -1) (g : Int) (m : Segs) (hm : mayB g m = true) : (roomFor st m → (dkSwap st g m).2 = 0 ∧ (dkSwap st g m).1.dark = false) ∧ (¬ roomFor st m → dkSwap st g m = (noFresh st, 44)) := by
  obtain ⟨_, _, _, hml, _⟩ := mayB_all hm
  have hlen : (Crc.seal_ (manBytes g m)).length = 18 + 16 * m.length := by rw [Crc.seal_length, manBytes_length]; omega
  obtain ⟨d1, d2⟩ := delete_fresh st hd hl
  have hs : dkSwap st g m = (swapEnd (swapL (Crc.seal_ (manBytes g m)) [0, 1, 2, 3, 4] st).2 (swapL (Crc.seal_ (manBytes g m)) [0, 1, 2, 3, 4] st).1) := by unfold dkSwap; rw [hm]; rfl
  generalize Crc.seal_ (manBytes g m) = s at hs hlen
  have hn0 : fsGet (noFresh st).fs freshN = none := get_del_eq _ _
  have e0 : swapL s [0, 1, 2, 3, 4] st = swapL s [1, 2, 3, 4] (noFresh st) := by
    rw [swapL, if_neg (by rintro ⟨a, b⟩; rcases d2 with h | h; exact a h; exact b ⟨rfl, h⟩)]
    show swapL s [1, 2, 3, 4] (dkDelete st freshN).1 = _
    rw [d1]
  have hdn : (noFresh st).dark = false := hd
  have hln : (noFresh st).left = -1 := hl
  have hcn : (noFresh st).cap = st.cap := rfl
  unfold roomFor
  rw [hs, e0, ← hcn]
  generalize noFresh st = sn at *
  have hdel : ∀ st' : DkSt, st'.dark = false → fsGet st'.fs freshN = none → swapEnd 44 st' = (st', 44) := by
    intro st' h1 h2
    have : dkDelete st' freshN = (st', 5) := by unfold dkDelete; rw [h1, h2]; rfl
    unfold swapEnd; rw [if_pos rfl, this]; rfl
  by_cases h1 : 64 ≤ sn.fs.length
  · have e1 : stepF s 1 sn = (sn, 44) := by
      show dkCreate sn freshN = _
      unfold dkCreate
      rw [hdn, hn0, show mayName freshN = true from by decide +kernel]
      simp [h1]
    have e2 : swapL s [1, 2, 3, 4] sn = (sn, 44) := by rw [swapL, e1]; rfl
    rw [e2]
    refine ⟨fun h => by omega, fun _ => hdel sn hdn hn0⟩
  · have e1 : stepF s 1 sn = ({ sn with fs := fsPut sn.fs ⟨freshN, [], []⟩ }, 0) := by
      show dkCreate sn freshN = _
      unfold dkCreate doing
      rw [hdn, hn0, show mayName freshN = true from by decide +kernel, hln]
      simp [h1, dec]
    have e2 : swapL s [1, 2, 3, 4] sn = swapL s [2, 3, 4] { sn with fs := fsPut sn.fs ⟨freshN, [], []⟩ } := by rw [swapL, e1]; rfl
    rw [e2]
    have hu : used (fsPut sn.fs ⟨freshN, [], []⟩) = used sn.fs := by rw [used_put, del_none hn0]; simp
    have hg : fsGet (fsPut sn.fs ⟨freshN, [], []⟩) freshN = some ⟨freshN, [], []⟩ := get_put_eq ⟨freshN, [], []⟩ _
    by_cases h2 : sn.cap - (used sn.fs : Int) < (s.length : Int)
    · have e3 : stepF s 2 { sn with fs := fsPut sn.fs ⟨freshN, [], []⟩ } = ({ sn with fs := fsPut sn.fs ⟨freshN, [], []⟩ }, 44) := by
        show dkAppend _ freshN s = _
        unfold dkAppend
        simp only [hdn, hg, hu, Bool.false_eq_true, if_false]
        rw [if_pos (.inr h2)]
      have e4 : swapL s [2, 3, 4] { sn with fs := fsPut sn.fs ⟨freshN, [], []⟩ } = ({ sn with fs := fsPut sn.fs ⟨freshN, [], []⟩ }, 44) := by rw [swapL, e3]; rfl
      rw [e4]
      refine ⟨fun h => by omega, fun _ => ?_⟩
      have : dkDelete { sn with fs := fsPut sn.fs ⟨freshN, [], []⟩ } freshN = (sn, 0) := by
        unfold dkDelete doing
        simp only [hdn, hg, hln, Bool.false_eq_true, if_false]
        rw [if_neg (by decide)]
        have e9 : fsDel (fsPut sn.fs ⟨freshN, [], []⟩) freshN = sn.fs := by
          unfold fsPut
          rw [show fsDel sn.fs (FileS.name ⟨freshN, [], []⟩) = sn.fs from del_none hn0]
          exact ins_del (f := ⟨freshN, [], []⟩) hn0
        rw [e9]
        obtain ⟨a, b, c, d⟩ := sn
        simp only at hdn hln
        subst hdn hln
        rfl
      unfold swapEnd
      rw [if_pos rfl, this]; rfl
    · refine ⟨fun _ => ?_, fun h => absurd ⟨by omega, by omega⟩ h⟩
      have e3 : stepF s 2 { sn with fs := fsPut sn.fs ⟨freshN, [], []⟩ } = ({ sn with fs := fsPut (fsPut sn.fs ⟨freshN, [], []⟩) ⟨freshN, [], s⟩ }, 0) := by
        show dkAppend _ freshN s = _
        unfold dkAppend
        simp only [hdn, hg, hu, hln, Bool.false_eq_true, if_false]
        rw [if_neg (by rintro (h | h); simp at h; omega; exact h2 h), if_neg (by decide)]
        simp [dec]
      have hg2 : fsGet (fsPut (fsPut sn.fs ⟨freshN, [], []⟩) ⟨freshN, [], s⟩) freshN = some ⟨freshN, [], s⟩ := get_put_eq ⟨freshN, [], s⟩ _
      have e4 : stepF s 3 { sn with fs := fsPut (fsPut sn.fs ⟨freshN, [], []⟩) ⟨freshN, [], s⟩ } = ({ sn with fs := fsPut (fsPut (fsPut sn.fs ⟨freshN, [], []⟩) ⟨freshN, [], s⟩) ⟨freshN, s, []⟩ }, 0) := by
        show dkSync _ freshN = _
        unfold dkSync doing
        simp only [hdn, hg2, hln, Bool.false_eq_true, if_false]
        rw [if_neg (by decide)]
        simp [dec]
      have hg3 : fsGet (fsPut (fsPut (fsPut sn.fs ⟨freshN, [], []⟩) ⟨freshN, [], s⟩) ⟨freshN, s, []⟩) freshN = some ⟨freshN, s, []⟩ := get_put_eq ⟨freshN, s, []⟩ _
      rw [swapL, e3, if_neg (by simp), swapL, e4, if_neg (by simp)]
      rcases ends_4 s (st := { sn with fs := fsPut (fsPut (fsPut sn.fs ⟨freshN, [], []⟩) ⟨freshN, [], s⟩) ⟨freshN, s, []⟩ }) hdn hg3 with ⟨k1, k2, _⟩ | ⟨_, _, k3, _⟩
      · rw [swapL, if_neg (by rw [k1]; simp)]
        show (swapEnd 0 _).2 = 0 ∧ (swapEnd 0 _).1.dark = false
        rw [swapEnd_ne (by decide)]
        exact ⟨rfl, k2⟩
      · rw [show ({ sn with fs := fsPut (fsPut (fsPut sn.fs ⟨freshN, [], []⟩) ⟨freshN, [], s⟩) ⟨freshN, s, []⟩ } : DkSt).left = sn.left from rfl, hln] at k3; exact absurd k3 (by decide)

end Go.Proofs.YtcdjckdbcffgdaaGreatDoor

/- seglog, plainly: what acts leave on a disk that has power, and room. -/
namespace Go.Proofs.YtcdjckdbcffgdaaGreatDoor

/-- No two files have one name. -/
def Apart (fs : Fs) : Prop := fs.Pairwise (fun f g => f.name ≠ g.name)
theorem apart_ins {f : FileS} {fs : Fs} (h : Apart fs) (hn : ∀ g ∈ fs, g.name ≠ f.name) : Apart (fsIns f fs) := by
  unfold Apart at *
  induction fs with
  | nil => exact List.pairwise_singleton _ _
  | cons g r ih =>
    unfold fsIns
    obtain ⟨h1, h2⟩ := List.pairwise_cons.1 h
    split
    · exact List.pairwise_cons.2 ⟨fun x hx => (hn x hx).symm, h⟩
    · refine List.pairwise_cons.2 ⟨fun x hx => ?_, ih h2 fun x hx => hn x (by simp [hx])⟩
      rcases mem_ins.1 hx with rfl | hx
      · exact hn g (by simp)
      · exact h1 x hx
theorem apart_del {fs : Fs} (h : Apart fs) (n : List UInt8) : Apart (fsDel fs n) := List.Pairwise.filter _ h
theorem apart_put {fs : Fs} (h : Apart fs) (f : FileS) : Apart (fsPut fs f) := apart_ins (apart_del h _) fun _ hg => (mem_del.1 hg).2
theorem get_of_mem {fs : Fs} (h : Apart fs) {f : FileS} (hf : f ∈ fs) : fsGet fs f.name = some f := by
  unfold Apart at h
  induction fs with
  | nil => simp at hf
  | cons g r ih =>
    obtain ⟨h1, h2⟩ := List.pairwise_cons.1 h
    rcases List.mem_cons.1 hf with rfl | hf
    · exact get_cons_eq
    · rw [get_cons_ne (h1 f hf)]; exact ih h2 hf
theorem mem_put {fs : Fs} {f g : FileS} : g ∈ fsPut fs f ↔ g = f ∨ (g ∈ fs ∧ g.name ≠ f.name) := by unfold fsPut; rw [mem_ins, mem_del]
theorem put_put {fs : Fs} {f g : FileS} (h : g.name = f.name) : fsPut (fsPut fs f) g = fsPut fs g := by
  unfold fsPut; rw [h, ins_del (get_del_eq _ _)]
theorem used_new {fs : Fs} {f : FileS} (h : fsGet fs f.name = none) : used (fsPut fs f) = (f.firm.length + f.pend.length) + used fs := by rw [used_put, del_none h]
theorem used_old {fs : Fs} (hp : Apart fs) {f g : FileS} (h : fsGet fs g.name = some f) : used (fsPut fs g) + (f.firm.length + f.pend.length) = (g.firm.length + g.pend.length) + used fs := by
  have := (used_del_some hp h).1
  rw [used_put]; omega
theorem len_new {fs : Fs} {f : FileS} (h : fsGet fs f.name = none) : (fsPut fs f).length = fs.length + 1 := by unfold fsPut; rw [length_ins, del_none h]
theorem len_old {fs : Fs} (hp : Apart fs) {f g : FileS} (h : fsGet fs g.name = some f) : (fsPut fs g).length = fs.length := by
  have := (used_del_some hp h).2
  unfold fsPut; rw [length_ins]; exact this

/-- There is power, and no cut to come. -/
structure On (st : DkSt) : Prop where
  lit : st.dark = false
  free : st.left = -1
theorem On.put {st : DkSt} (h : On st) (fs' : Fs) : On { st with fs := fs' } := ⟨h.lit, h.free⟩
theorem doing_on {st : DkSt} (h : On st) (fs' : Fs) : doing st fs' = ({ st with fs := fs' }, 0) := by
  obtain ⟨fs, cap, left, dark⟩ := st
  obtain ⟨h1, h2⟩ := h
  simp only at h1 h2
  subst h1 h2
  rfl
theorem create_on {st : DkSt} (h : On st) {n : List UInt8} (hn : mayName n = true) (hg : fsGet st.fs n = none) (hl : st.fs.length < 64) : dkCreate st n = ({ st with fs := fsPut st.fs ⟨n, [], []⟩ }, 0) :=
  (show dkCreate st n = doing st (fsPut st.fs ⟨n, [], []⟩) from by unfold dkCreate; rw [h.lit, hn, hg, if_neg (by decide), if_neg (by decide), if_neg (by simp), if_neg (by omega)]).trans (doing_on h _)
theorem append_on {st : DkSt} (h : On st) {n x : List UInt8} {f : FileS} (hg : fsGet st.fs n = some f) (h1 : f.firm.length + f.pend.length + x.length ≤ 1048576) (h2 : (used st.fs : Int) + (x.length : Int) ≤ st.cap) :
    dkAppend st n x = ({ st with fs := fsPut st.fs ⟨n, f.firm, f.pend ++ x⟩ }, 0) := by
  obtain ⟨fs, cap, left, dark⟩ := st
  obtain ⟨h3, h4⟩ := h
  simp only at h3 h4 h2 hg
  subst h3 h4
  unfold dkAppend
  simp only [hg, Bool.false_eq_true, if_false]
  rw [if_neg (by omega), if_neg (by decide)]
  rfl
theorem sync_on {st : DkSt} (h : On st) {n : List UInt8} {f : FileS} (hg : fsGet st.fs n = some f) : dkSync st n = ({ st with fs := fsPut st.fs ⟨n, f.firm ++ f.pend, []⟩ }, 0) :=
  (show dkSync st n = doing st (fsPut st.fs ⟨n, f.firm ++ f.pend, []⟩) from by unfold dkSync; rw [h.lit, hg, if_neg (by decide)]).trans (doing_on h _)
theorem delete_none {st : DkSt} (h : On st) {n : List UInt8} (hg : fsGet st.fs n = none) : dkDelete st n = (st, 5) := by
  unfold dkDelete
  rw [h.lit, hg, if_neg (by decide)]
theorem delete_on {st : DkSt} (h : On st) {n : List UInt8} {f : FileS} (hg : fsGet st.fs n = some f) : dkDelete st n = ({ st with fs := fsDel st.fs n }, 0) :=
  (show dkDelete st n = doing st (fsDel st.fs n) from by unfold dkDelete; rw [h.lit, hg, if_neg (by decide)]).trans (doing_on h _)
theorem rename_on {st : DkSt} (h : On st) {a c : List UInt8} {f : FileS} (hg : fsGet st.fs a = some f) (hc : mayName c = true) (hne : a ≠ c) : dkRename st a c = ({ st with fs := fsPut (fsDel st.fs a) ⟨c, f.firm, f.pend⟩ }, 0) :=
  (show dkRename st a c = doing st (fsPut (fsDel st.fs a) ⟨c, f.firm, f.pend⟩) from by
    unfold dkRename
    rw [h.lit, hg, if_neg (by decide)]
    simp only [hc, Bool.not_true, Bool.false_eq_true, if_false]
    rw [if_neg hne]).trans (doing_on h _)

theorem swap_on {st : DkSt} (h : On st) {g : Int} {m : Segs} (hm : mayB g m = true) (hf : fsGet st.fs freshN = none) (hl : st.fs.length < 64) (hu : (used st.fs : Int) + 18 + 16 * (m.length : Int) ≤ st.cap) :
    dkSwap st g m = ({ st with fs := fsPut st.fs ⟨fileN, Crc.seal_ (manBytes g m), []⟩ }, 0) := by
  obtain ⟨_, _, _, hml, _⟩ := mayB_all hm
  have hlen : (Crc.seal_ (manBytes g m)).length = 18 + 16 * m.length := by rw [Crc.seal_length, manBytes_length]; omega
  unfold dkSwap
  rw [if_pos hm]
  generalize Crc.seal_ (manBytes g m) = s at *
  have e0 : stepF s 0 st = (st, 5) := delete_none h hf
  have e1 : stepF s 1 st = ({ st with fs := fsPut st.fs ⟨freshN, [], []⟩ }, 0) := create_on h (by decide +kernel) hf hl
  have hu1 : used (fsPut st.fs ⟨freshN, [], []⟩) = used st.fs := by rw [used_new hf]; simp
  have e2 : stepF s 2 { st with fs := fsPut st.fs ⟨freshN, [], []⟩ } = ({ st with fs := fsPut st.fs ⟨freshN, [], s⟩ }, 0) := by
    show dkAppend _ freshN s = _
    have g1 : fsGet (fsPut st.fs ⟨freshN, [], []⟩) freshN = some ⟨freshN, [], []⟩ := get_put_eq ⟨freshN, [], []⟩ _
    rw [append_on (st := { st with fs := fsPut st.fs ⟨freshN, [], []⟩ }) (x := s) (h.put _) g1 (by simp; omega) (by simp only [hu1]; omega)]
    simp only [List.nil_append]
    rw [put_put (f := ⟨freshN, [], []⟩) (g := ⟨freshN, [], s⟩) rfl]
  have e3 : stepF s 3 { st with fs := fsPut st.fs ⟨freshN, [], s⟩ } = ({ st with fs := fsPut st.fs ⟨freshN, s, []⟩ }, 0) := by
    show dkSync _ freshN = _
    have g1 : fsGet (fsPut st.fs ⟨freshN, [], s⟩) freshN = some ⟨freshN, [], s⟩ := get_put_eq ⟨freshN, [], s⟩ _
    rw [sync_on (st := { st with fs := fsPut st.fs ⟨freshN, [], s⟩ }) (h.put _) g1]
    simp only [List.nil_append]
    rw [put_put (f := ⟨freshN, [], s⟩) (g := ⟨freshN, s, []⟩) rfl]
  have e4 : stepF s 4 { st with fs := fsPut st.fs ⟨freshN, s, []⟩ } = ({ st with fs := fsPut st.fs ⟨fileN, s, []⟩ }, 0) := by
    show dkRename _ freshN fileN = _
    have g1 : fsGet (fsPut st.fs ⟨freshN, s, []⟩) freshN = some ⟨freshN, s, []⟩ := get_put_eq ⟨freshN, s, []⟩ _
    rw [rename_on (st := { st with fs := fsPut st.fs ⟨freshN, s, []⟩ }) (h.put _) g1 (by decide +kernel) fresh_ne_file]
    have e : fsDel (fsPut st.fs ⟨freshN, s, []⟩) freshN = st.fs := by
      unfold fsPut
      rw [show freshN = (⟨freshN, s, []⟩ : FileS).name from rfl, ins_del (get_del_eq _ _), del_none hf]
    simp only [e]
  have l0 : swapL s [0, 1, 2, 3, 4] st = swapL s [1, 2, 3, 4] st := by rw [swapL, e0]; rfl
  have l1 : swapL s [1, 2, 3, 4] st = swapL s [2, 3, 4] { st with fs := fsPut st.fs ⟨freshN, [], []⟩ } := by rw [swapL, e1]; rfl
  have l2 : swapL s [2, 3, 4] { st with fs := fsPut st.fs ⟨freshN, [], []⟩ } = swapL s [3, 4] { st with fs := fsPut st.fs ⟨freshN, [], s⟩ } := by rw [swapL, e2]; rfl
  have l3 : swapL s [3, 4] { st with fs := fsPut st.fs ⟨freshN, [], s⟩ } = swapL s [4] { st with fs := fsPut st.fs ⟨freshN, s, []⟩ } := by rw [swapL, e3]; rfl
  have l4 : swapL s [4] { st with fs := fsPut st.fs ⟨freshN, s, []⟩ } = ({ st with fs := fsPut st.fs ⟨fileN, s, []⟩ }, 0) := by rw [swapL, e4]; rfl
  rw [l0, l1, l2, l3, l4, swapEnd_ne (by show (0 : Int) ≠ 44; decide)]

/-! ### Names of segments -/
theorem may_nat {g : Int} {l : Segs} (h : mayB g l = true) (i : Nat) (hi : i < l.length) : ∃ a f : Nat, l[i] = ((a : Int), (f : Int)) ∧ a ≤ 99999999 ∧ f ≤ 1048576 := by
  obtain ⟨_, h2, _, _, h5⟩ := mayB_all h
  obtain ⟨h6, h7, h8, h9⟩ := h5 i hi
  exact ⟨l[i].1.toNat, l[i].2.toNat, Prod.ext (by simp; omega) (by simp; omega), by omega, by omega⟩
theorem segs_rise {g : Int} : ∀ {last : Int} {l : Segs}, segsOk g last l = true → l.Pairwise (fun s t => s.2 < t.2)
  | _, [], _ => List.Pairwise.nil
  | last, (a, f) :: t, h => by
    unfold segsOk at h
    rw [Bool.and_eq_true] at h
    exact List.pairwise_cons.2 ⟨segsOk_gt h.2, segs_rise h.2⟩
theorem may_rise {g : Int} {l : Segs} (h : mayB g l = true) {i j : Nat} (hj : j < l.length) (hij : i < j) : (l[i]'(by omega)).2 < l[j].2 :=
  List.pairwise_iff_getElem.1 (segs_rise (may_segs h)) i j (by omega) hj hij
theorem name_ne {g : Int} {l : Segs} (h : mayB g l = true) {i j : Nat} (hi : i < l.length) (hj : j < l.length) (hij : i ≠ j) : nameOf l[i] ≠ nameOf l[j] := by
  obtain ⟨a, f, e1, h1, h2⟩ := may_nat h i hi
  obtain ⟨b, k, e2, h3, h4⟩ := may_nat h j hj
  intro e
  rw [e1, e2] at e
  have := (segName_inj h1 h2 h3 h4 e).2
  rcases Nat.lt_or_gt_of_ne hij with h5 | h5
  · have := may_rise h hj h5; rw [e1, e2] at this; simp at this; omega
  · have := may_rise h hi h5; rw [e1, e2] at this; simp at this; omega
theorem segName_not_M {a f : Nat} (h1 : a ≤ 99999999) (h2 : f ≤ 1048576) (r : List UInt8) : segName (a : Int) (f : Int) ≠ 77 :: r := by
  rw [segName_eq a f h1 h2]
  intro e
  have := (List.cons.inj e).1
  exact absurd this (by decide)
theorem dig_letter {c : UInt8} (h : isDig c) : letters.contains c = true := by
  obtain ⟨h1, h2⟩ := h
  have e : c = UInt8.ofNat c.toNat := (UInt8.ofNat_toNat).symm
  rw [e]
  generalize c.toNat = n at *
  have : n = 48 ∨ n = 49 ∨ n = 50 ∨ n = 51 ∨ n = 52 ∨ n = 53 ∨ n = 54 ∨ n = 55 ∨ n = 56 ∨ n = 57 := by omega
  rcases this with rfl | rfl | rfl | rfl | rfl | rfl | rfl | rfl | rfl | rfl <;> decide
theorem segName_may {a f : Nat} (h1 : a ≤ 99999999) (h2 : f ≤ 1048576) : mayName (segName (a : Int) (f : Int)) = true := by
  have hl := segName_len a f h1 h2
  unfold mayName
  rw [hl]
  simp only [Bool.and_eq_true, decide_eq_true_eq, List.all_eq_true]
  refine ⟨⟨by omega, by omega⟩, fun c hc => ?_⟩
  rw [segName_eq a f h1 h2] at hc
  rcases List.mem_cons.1 hc with rfl | hc
  · decide
  rcases List.mem_append.1 hc with hc | hc
  · exact dig_letter (padded_digs a 8 c hc)
  rcases List.mem_cons.1 hc with rfl | hc
  · decide
  · exact dig_letter (padded_digs f 10 c hc)
/-- Names that are all on a disk are no more than its files. -/
theorem names_le : ∀ (ns : List (List UInt8)) (fs : Fs), Apart fs → ns.Pairwise (· ≠ ·) → (∀ n ∈ ns, (fsGet fs n).isSome = true) → ns.length ≤ fs.length
  | [], _, _, _, _ => Nat.zero_le _
  | n :: r, fs, ha, hn, hs => by
    obtain ⟨h1, h2⟩ := List.pairwise_cons.1 hn
    obtain ⟨f, hf⟩ := Option.isSome_iff_exists.1 (hs n (by simp))
    have h3 := (used_del_some ha hf).2
    have h4 := names_le r (fsDel fs n) (apart_del ha n) h2 fun m hm => by rw [get_del_ne (h1 m hm)]; exact hs m (by simp [hm])
    simp only [List.length_cons]; omega

/-! ### The log -/
theorem LgOk.pos {l : LgSt} (h : LgOk l) : 0 < l.segs.length := by have := mayB_all h.may; omega
theorem LgOk.few {l : LgSt} (h : LgOk l) : l.segs.length ≤ 64 := by have := mayB_all h.may; omega
theorem lastIx_eq {l : LgSt} (h0 : 0 < l.ix.length) : l.lastIx = l.ix[l.ix.length - 1]'(by omega) := by
  unfold LgSt.lastIx
  rw [List.getLast?_eq_getElem?, List.getElem?_eq_getElem (by omega)]; rfl
theorem name_eq {l : LgSt} (h0 : 0 < l.segs.length) : l.name = nameOf (l.segs[l.segs.length - 1]'(by omega)) := by
  unfold LgSt.name
  rw [List.getLast?_eq_getElem?, List.getElem?_eq_getElem (by omega)]; rfl
theorem LgOk.last {l : LgSt} (h : LgOk l) : frOk l.lastIx.1 l.lastIx.2 ∧ l.lastIx.good ≤ 1048576 ∧ lastF l.segs = (l.lastIx.1 : Int) := by
  have h0 := h.pos
  have h1 := h.len
  have h2 := h.each (l.segs.length - 1) (by omega) (by omega)
  rw [lastIx_eq (by omega)]
  simp only [h1]
  exact ⟨h2.2.1, h2.2.2, by rw [lastF_at h0]; exact h2.1⟩
theorem LgOn.last {st : DkSt} {l : LgSt} (hk : LgOk l) (h : LgOn st l) : ∃ f, fsGet st.fs l.name = some f ∧ f.firm ++ f.pend = segBytes l.lastIx.1 l.lastIx.2 ∧ 16 ≤ f.firm.length := by
  have h0 := hk.pos
  have h1 := hk.len
  obtain ⟨f, hf, hb, hl, _⟩ := h.seg (l.segs.length - 1) (by omega) (by omega)
  refine ⟨f, by rw [name_eq h0]; exact hf, ?_, hl⟩
  rw [hb, lastIx_eq (by omega)]
  simp only [h1]
theorem segBytes_snoc (q : Nat) (ps : List (List UInt8)) (p : List UInt8) : segBytes q (ps ++ [p]) = segBytes q ps ++ frBytes (q + ps.length) p := by
  unfold segBytes
  rw [frames_append, ← List.append_assoc]
  simp [frames]
theorem good_snoc (q : Nat) (ps : List (List UInt8)) (p : List UInt8) : SgIx.good (q, ps ++ [p]) = SgIx.good (q, ps) + 16 + p.length := by
  unfold SgIx.good
  simp only
  rw [segBytes_snoc, List.length_append, frBytes_length]; omega
theorem good_ge (x : SgIx) : 16 ≤ x.good := by unfold SgIx.good; rw [segBytes_length]; omega

theorem add_len (l : LgSt) (p : List UInt8) (h0 : 0 < l.ix.length) : (l.add p).ix.length = l.ix.length := by unfold LgSt.add; simp; omega
theorem add_get (l : LgSt) (p : List UInt8) (i : Nat) (h : i < (l.add p).ix.length) (h' : i < l.ix.length) : (l.add p).ix[i] = if i + 1 = l.ix.length then (l.lastIx.1, l.lastIx.2 ++ [p]) else l.ix[i] := by
  rw [List.getElem_of_eq (show (l.add p).ix = l.ix.dropLast ++ [(l.lastIx.1, l.lastIx.2 ++ [p])] from rfl) h, List.getElem_append]
  by_cases hi : i + 1 = l.ix.length
  · rw [if_pos hi, dif_neg (by rw [List.length_dropLast]; omega), List.getElem_singleton]
  · rw [if_neg hi, dif_pos (by rw [List.length_dropLast]; omega), List.getElem_dropLast]
theorem add_last (l : LgSt) (p : List UInt8) : (l.add p).lastIx = (l.lastIx.1, l.lastIx.2 ++ [p]) := by
  unfold LgSt.add LgSt.lastIx
  simp
theorem add_next (l : LgSt) (p : List UInt8) : (l.add p).next = l.next + 1 := by
  unfold LgSt.next
  rw [add_last]; unfold SgIx.next; simp; omega
theorem add_all (l : LgSt) (p : List UInt8) (h0 : 0 < l.ix.length) : (l.add p).all = l.all ++ [p] := by
  have e : l.ix = l.ix.dropLast ++ [l.lastIx] := by
    rw [lastIx_eq h0, ← List.getLast_eq_getElem (by intro e; rw [e] at h0; simp at h0), List.dropLast_concat_getLast]
  have e2 : l.all = ((l.ix.dropLast ++ [l.lastIx]).map (·.2)).flatten := by rw [← e]; rfl
  rw [e2]
  unfold LgSt.add LgSt.all
  simp
theorem LgOk.add {l : LgSt} (h : LgOk l) {p : List UInt8} (hp : payOk p) (hn : l.next < 1048576) (hg : l.lastIx.good + 16 + p.length ≤ 1048576) : LgOk (l.add p) := by
  have h0 := h.pos
  have h1 := h.len
  have hl := h.last
  have hle := add_len l p (by omega)
  have hx := lastIx_eq (l := l) (by omega)
  have hnx : l.next = l.lastIx.1 + l.lastIx.2.length := rfl
  refine ⟨h.cfg, h.may, by rw [hle]; exact h1, fun i hi hi' => ?_, fun i hi => ?_, by rw [add_next]; omega⟩
  · have hi2 : i < l.ix.length := by omega
    have hs : (l.add p).segs = l.segs := rfl
    have he := h.each i hi hi2
    rw [add_get l p i hi' hi2]
    by_cases hc : i + 1 = l.ix.length
    · rw [if_pos hc]
      have e : l.ix[i] = l.lastIx := by rw [hx]; congr 1; omega
      rw [e] at he
      refine ⟨he.1, ?_, ?_⟩
      · rw [frOk_append]; exact ⟨hl.1, hp, by omega, trivial⟩
      · rw [good_snoc]; exact hg
    · rw [if_neg hc]; exact he
  · have hi2 : i + 1 < l.ix.length := by omega
    have hr := h.row i hi2
    rw [add_get l p i (by omega) (by omega), if_neg (by omega), add_get l p (i + 1) hi hi2]
    by_cases hc : i + 1 + 1 = l.ix.length
    · rw [if_pos hc]
      have e : l.ix[i + 1] = l.lastIx := by rw [hx]; congr 1; omega
      rw [e] at hr
      exact hr
    · rw [if_neg hc]; exact hr

/-- The log, another segment begun. -/
def LgSt.turn (l : LgSt) : LgSt := { l with segs := l.segs ++ [(l.gen, (l.next : Int))], ix := l.ix ++ [(l.next, [])] }
theorem turn_last (l : LgSt) : l.turn.lastIx = (l.next, []) := by unfold LgSt.turn LgSt.lastIx; simp
theorem turn_next (l : LgSt) : l.turn.next = l.next := by unfold LgSt.next; rw [turn_last]; rfl
theorem turn_all (l : LgSt) : l.turn.all = l.all := by unfold LgSt.turn LgSt.all; simp
theorem turn_name (l : LgSt) : l.turn.name = segName l.gen (l.next : Int) := by unfold LgSt.turn LgSt.name nameOf; simp
theorem LgOk.turn {l : LgSt} (h : LgOk l) (hm : mayB l.gen (l.segs ++ [(l.gen, (l.next : Int))]) = true) : LgOk l.turn := by
  have h0 := h.pos
  have h1 := h.len
  have hx := lastIx_eq (l := l) (by omega)
  refine ⟨h.cfg, hm, by unfold LgSt.turn; simp [h1], fun i hi hi' => ?_, fun i hi => ?_, by rw [turn_next]; exact h.top⟩
  · unfold LgSt.turn at hi hi' ⊢
    simp only [List.length_append, List.length_singleton] at hi hi' ⊢
    simp only [List.getElem_append]
    by_cases hc : i < l.segs.length
    · simp only [hc, show i < l.ix.length from by omega, dif_pos]
      exact h.each i hc (by omega)
    · simp only [hc, show ¬ i < l.ix.length from by omega, dif_neg, not_false_eq_true, List.getElem_singleton]
      exact ⟨trivial, trivial, by unfold SgIx.good; rw [segBytes_length]; simp [frames]⟩
  · unfold LgSt.turn at hi ⊢
    simp only [List.length_append, List.length_singleton] at hi ⊢
    simp only [List.getElem_append]
    by_cases hc : i + 1 < l.ix.length
    · simp only [hc, show i < l.ix.length from by omega, dif_pos]
      exact h.row i hc
    · simp only [hc, show i < l.ix.length from by omega, dif_pos, dif_neg, not_false_eq_true, List.getElem_singleton]
      have e : l.ix[i]'(by omega) = l.lastIx := by rw [hx]; congr 1; omega
      rw [e]; rfl
end Go.Proofs.YtcdjckdbcffgdaaGreatDoor

/- souklaw14's example, plainly. -/
namespace Go.Proofs.YtcdjckdbcffgdaaGreatDoor

def exCfg : Cfg := ⟨64, 2, 3⟩
def exD0 : DkSt := ⟨[], 1000, -1, false⟩
def exL1 : LgSt := ⟨exCfg, 0, [(0, 0)], [(0, [])]⟩
def exPx : List UInt8 := List.replicate 20 120
def exPy : List UInt8 := List.replicate 20 121
def exD1 : DkSt := (lgInit exD0 0 exCfg).1
def exR2 : (DkSt × LgSt) × Int := lgAppend exD1 exL1 exPx
def exR3 : (DkSt × LgSt) × Int := lgAppend exR2.1.1 exR2.1.2 exPy
def sizeOfF' (f : FileS) : Nat := f.firm.length + f.pend.length
def exN0 : List UInt8 := [115, 48, 48, 48, 48, 48, 48, 48, 48, 45, 48, 48, 48, 48, 48, 48, 48, 48, 48, 48]
def exN1 : List UInt8 := [115, 48, 48, 48, 48, 48, 48, 48, 48, 45, 48, 48, 48, 48, 48, 48, 48, 48, 48, 49]
theorem ex_init : (lgInit exD0 0 exCfg).2.1 = 0 ∧ exD1.fs.map (·.name) = [fileN, exN0] ∧ exD1.fs.map sizeOfF' = [34, 16] := by decide +kernel
theorem ex_two : exR2.2 = 0 ∧ exR3.2 = 0 ∧ exR3.1.1.fs.map (·.name) = [fileN, exN0, exN1] ∧ exR3.1.1.fs.map sizeOfF' = [50, 52, 52] ∧ exR3.1.2.next = 2 ∧ exR2.1.2.next = 1 := by decide +kernel
theorem ex_tell : exR3.1.2.all = [exPx, exPy] := by decide +kernel
end Go.Proofs.YtcdjckdbcffgdaaGreatDoor
