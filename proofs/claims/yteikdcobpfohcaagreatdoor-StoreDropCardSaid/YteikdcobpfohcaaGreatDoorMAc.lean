/- The walks of Create and Delete, each with what it does. -/
import Derived.Test.YteikdcobpfohcaaGreatDoorMAb
namespace Go.Proofs.YteikdcobpfohcaaGreatDoor
open Go.RowKit Go.Maps

/-- What an op does to the files, if it may. -/
def doing (st : DkSt) (fs' : Fs) : DkSt × Int := if st.left = 0 then ({ st with dark := true }, 45) else ({ st with left := dec st.left, fs := fs' }, 0)

/-- What an op leaves, and tells. -/
def OpPost (p b : Nat) (r : DkSt × Int) (w : World) (e : Ending) (w' : World) : Prop := e = .returned (.int .i64 r.2) ∧ IsDk w' p b r.1 ∧ DFr p b w w'
def ActPost (p b : Nat) (st : DkSt) (w : World) (e : Ending) (w' : World) : Prop := e = .returned (.tuple #[]) ∧ IsDk w' p b st ∧ DFr p b w w'

def dkCreate (st : DkSt) (n : List UInt8) : DkSt × Int :=
  if st.dark then (st, 45) else if !mayName n then (st, 4) else if (fsGet st.fs n).isSome then (st, 6) else if 64 ≤ st.fs.length then (st, 44) else doing st (fsPut st.fs ⟨n, [], []⟩)
def dkDelete (st : DkSt) (n : List UInt8) : DkSt × Int :=
  if st.dark then (st, 45) else match fsGet st.fs n with | none => (st, 5) | some _ => doing st (fsDel st.fs n)

theorem mayName_len {n : List UInt8} (h : mayName n = true) : n.length ≤ 24 := by
  unfold mayName at h; simp at h; exact h.1.2

/-- The two captured variables: the disk, the name. -/
structure Capt (w : World) (q r p : Nat) (n : ByteArray) : Prop where
  cq : w.cell? ⟨q, 0, none⟩ = some (.pointer (some ⟨p, 0, none⟩))
  cr : w.cell? ⟨r, 0, none⟩ = some (.string n)

theorem IsDk.drew {w : World} {p b : Nat} {st : DkSt} (h : IsDk w p b st) : IsDk w.drew p b st := ⟨h.cell, h.own, h.ok⟩
set_option maxRecDepth 100000 in
set_option maxHeartbeats 1000000 in
theorem create_act (w : World) (q r p b : Nat) (st : DkSt) (n : ByteArray) (hc : Capt w q r p n) (h : IsDk w p b st) (hn : n.size ≤ 24) (hl : st.fs.length < 64) (hg : fsGet st.fs n.data.toList = none) :
    Calls Tryz.prog 47 #[.pointer (some ⟨q, 0, none⟩), .pointer (some ⟨r, 0, none⟩)] w fun e w' => ActPost p b { st with fs := fsPut st.fs ⟨n.data.toList, [], []⟩ } w e w' := by
  have H := Lib.hid h
  have hx1 := hc.cq
  have hx2 := hc.cr
  obtain ⟨c0, c1, c2, c3⟩ := h.cs
  have HK := Lib.hid (WideMaps.keyOf_string_mk Tryz.underlying9 (Nat.le_trans hn (by unfold maxLen; omega) : n.size ≤ maxLen))
  have HF := Lib.hid h.fewer
  have HE := Lib.hid (show FsKeep (fsPut st.fs ⟨n.data.toList, [], []⟩) ∧ (used (fsPut st.fs ⟨n.data.toList, [], []⟩) : Int) ≤ st.cap from ⟨h.ok.fs.keep.put (by show (fsDel st.fs n.data.toList).length < 64; rw [del_none hg]; exact hl) (by simp) (by rw [size_toList]; exact hn), by rw [used_put, del_none hg]; have := h.ok.fits; simpa using this⟩)
  clear hc h hn hl hg
  obtain ⟨w1, hrun, hown1, hturn1⟩ := H.out.drew.own.store (t := 88) (e := 93) Tryz.strKey Tryz.underlying88 HF.out (key := .string n) (val := .agg #[.string ⟨#[]⟩, .string ⟨#[]⟩]) HK.out (fileElem_mk _ _)
  have HO := Lib.hid (H.out.drew.turned (fs' := fsPut st.fs ⟨n.data.toList, [], []⟩) (by rw [← put_fs]; exact hown1) hturn1 HE.out.1 HE.out.2)
  have HT := Lib.hid (turned_fr hturn1)
  clear hown1 hturn1
  go_enter Tryz.func47, Tryz.ntmps47
  go_region
  go_wp2
  go_end0
  exact ⟨rfl, HO.out, ((Fr.refl _ w).drew.trans HT.out).toD⟩

/-- Two boxes more. -/
theorem box2_below (w : World) (o1 o2 : Obj) : Below w.heap.size w ((w.alloc o1).alloc o2) := ((Below.refl _ _).alloc (Nat.le_refl _) _).alloc (by simp) _
theorem box2_capt {w w' : World} {p : Nat} {n : ByteArray} {S : Nat → Prop} {t1 t2 : TypeId} (h : Fr S ((w.alloc (.cells #[.pointer (some ⟨p, 0, none⟩)] t1)).alloc (.cells #[.string n] t2)) w') (h1 : ¬ S w.heap.size) (h2 : ¬ S (w.heap.size + 1)) : Capt w' w.heap.size (w.heap.size + 1) p n :=
  ⟨h.cellAt (by rw [World.cell?_alloc_past _ _ _ (by simp), World.cell?_alloc_at _ _ _ _ rfl]; rfl) h1, h.cellAt (by rw [World.cell?_alloc_at _ _ _ _ (by simp)]; rfl) h2⟩

theorem Capt.fr {S : Nat → Prop} {w w' : World} {q r p : Nat} {n : ByteArray} (h : Capt w q r p n) (hf : Fr S w w') (h1 : ¬ S q) (h2 : ¬ S r) : Capt w' q r p n := ⟨hf.cellAt h.cq h1, hf.cellAt h.cr h2⟩

theorem look_run (w : World) (b : Nat) (fs : Fs) (hown : w.ownsMap Tryz.prog 9 fileElem b fs.length (fsD fs)) (n : ByteArray) (hn : n.size ≤ maxLen) :
    ∃ f1 f2, (Instr.lookup 88 (.map (some b)) (.string n) true).run Tryz.prog w = .ok (.tuple #[.agg #[.string f1, .string f2], .bool (fsGet fs n.data.toList).isSome]) w := by
  obtain ⟨v, ps, hrun, hv⟩ := hown.look_ok Tryz.strKey Tryz.underlying88 (Tryz.zeroFile w) (fileElem_mk _ _) (WideMaps.keyOf_string_mk Tryz.underlying9 hn)
  obtain ⟨f1, f2, rfl, hf⟩ := gotFile_of hv
  rw [has_fs] at hrun
  exact ⟨f1, f2, hrun⟩

set_option maxRecDepth 100000 in
set_option maxHeartbeats 1500000 in
theorem dk_create (w : World) (p b : Nat) (st : DkSt) (h : IsDk w p b st) (n : ByteArray) (hn : n.size ≤ maxLen) :
    Calls Tryz.prog 21 #[.pointer (some ⟨p, 0, none⟩), .string n] w fun e w' => OpPost p b (dkCreate st n.data.toList) w e w' := by
  have hmf : ∀ (fn : Fn) (first cap : Array Value) (w : World), (Instr.makeFunc fn first cap).run Tryz.prog w = .ok (.func fn first cap) w := fun _ _ _ _ => rfl
  have hp := h.lt
  have hbl := h.own.lt
  have HN := Lib.hid (show n.size ≤ 9223372036854775807 from by unfold maxLen at hn; omega)
  have H := Lib.hid h
  have H1 := Lib.hid (h.pure (box2_below w (.cells #[.pointer (some ⟨p, 0, none⟩)] 48) (.cells #[.string n] 9)))
  obtain ⟨c0, c1, c2, c3⟩ := H1.out.cs
  clear h
  cases hd : st.dark
  · have HD := Lib.hid hd
    clear hd
    go_enter Tryz.func21, Tryz.ntmps21
    go_wp2_with fail
    refine (dk_down _ p b st H1.out).mono ?_
    rintro e w1 ⟨rfl, rfl⟩
    rw [HD.out]
    obtain ⟨f1, f2, hr1⟩ := look_run (((w.alloc (.cells #[.pointer (some ⟨p, 0, none⟩)] 48)).alloc (.cells #[.string n] 9)).drew) b st.fs H1.out.drew.own n hn
    obtain ⟨g1, g2, hr2⟩ := look_run ((((w.alloc (.cells #[.pointer (some ⟨p, 0, none⟩)] 48)).alloc (.cells #[.string n] 9)).alloc (.cells #[.string ⟨#[]⟩, .string ⟨#[]⟩] 93)).drew) b st.fs (H1.out.pure ((Below.refl _ _).alloc (Nat.le_refl _) _)).drew.own n hn
    obtain ⟨d0, d1, d2, d3⟩ := (H1.out.pure ((Below.refl _ _).alloc (Nat.le_refl _) (.cells #[.string ⟨#[]⟩, .string ⟨#[]⟩] 93))).cs
    have D0 := Lib.hid d0
    clear d1 d2 d3
    go_wp2
    go_region
    all_goals (go_wp2_with fail)
    all_goals
      refine (mayName_any n _ HN.out).mono ?_
      rintro e w5 ⟨rfl, hb5⟩
      clear hr1 hr2 d0 c0 c1 c2 c3
      have hb6 : Below w.heap.size w w5 := (((box2_below w _ _).alloc (by simp; omega) _).drew).trans (hb5.mono (by simp; omega))
      have H6 := Lib.hid (H.out.pure hb6)
      have HC := Lib.hid (box2_capt (S := fun _ => False) ((((Fr.refl _ _).alloc _).drew).andPure hb5) (fun hf => hf) (fun hf => hf))
      have HB := Lib.hid hb6
      have hs5 : w.heap.size + 1 < w5.heap.size := by have := hb5.size; simp at this; omega
      clear hb5 hb6
      cases hm : mayName n.data.toList
      · have HM := Lib.hid hm
        clear hm
        go_wp2
        go_ret
        have e1 : dkCreate st n.data.toList = (st, 4) := by unfold dkCreate; rw [HD.out, HM.out]; rfl
        rw [e1]
        exact ⟨rfl, H6.out, Fr.pure HB.out⟩
      · have HM := Lib.hid hm
        clear hm
        cases hs : fsGet st.fs n.data.toList with
        | some f =>
          have HS := Lib.hid hs
          clear hs
          go_wp2
          go_ret
          have e1 : dkCreate st n.data.toList = (st, 6) := by unfold dkCreate; rw [HD.out, HM.out, HS.out]; rfl
          rw [e1]
          exact ⟨rfl, H6.out, Fr.pure HB.out⟩
        | none =>
          have HS := Lib.hid hs
          clear hs
          obtain ⟨c0, c1, c2, c3⟩ := H6.out.cs
          have hx1 := HC.out.cq
          have hx2 := HC.out.cr
          by_cases hl : 64 ≤ st.fs.length
          · go_wp2_with (at_len; refine wpList_len_own _ rfl _ 88 rfl 9 93 Tryz.underlying88 fileElem b st.fs.length (fsD st.fs) rfl H6.out.own ?_; rw [size_fs])
            go_ret
            have e1 : dkCreate st n.data.toList = (st, 44) := by unfold dkCreate; rw [HD.out, HM.out, HS.out, if_pos hl]; rfl
            rw [e1]
            exact ⟨rfl, H6.out, Fr.pure HB.out⟩
          · go_wp2_with (first | (at_len; refine wpList_len_own _ rfl _ 88 rfl 9 93 Tryz.underlying88 fileElem b st.fs.length (fsD st.fs) rfl H6.out.own ?_; rw [size_fs]))
            refine (dk_do 47 _ w5 p b st H6.out (enters_of Tryz.func47 (by kernel_rfl) rfl) (fun w2 => IsDk w2 p b { st with left := dec st.left, fs := fsPut st.fs ⟨n.data.toList, [], []⟩ } ∧ DFr p b w5 w2) (fun _ w1 hf1 hs1 hd1 => (create_act w1 _ _ p b { st with left := dec st.left } n (HC.out.fr hf1 (by omega) (by omega)) hd1 (by have := mayName_len HM.out; rw [size_toList] at this; exact this) (by show st.fs.length < 64; omega) HS.out).mono (fun e w2 h2 => ⟨h2.1, h2.2.1, hf1.toD1.trans h2.2.2⟩))).mono ?_
            rintro e w7 (⟨h0, rfl, hf7, hd7⟩ | ⟨h0, rfl, hd7, hf7⟩)
            · have H7 := Lib.hid hd7
              have F7 := Lib.hid hf7
              have H0 := Lib.hid h0
              clear hd7 hf7 h0
              go_wp2
              go_ret
              have e1 : dkCreate st n.data.toList = ({ st with dark := true }, 45) := by unfold dkCreate doing; rw [HD.out, HM.out, HS.out, if_neg hl, if_pos H0.out]; rfl
              rw [e1]
              exact ⟨rfl, H7.out, (Fr.pure HB.out).trans F7.out.toD1⟩
            · have H7 := Lib.hid hd7
              have F7 := Lib.hid hf7
              have H0 := Lib.hid h0
              clear hd7 hf7 h0
              go_wp2
              go_ret
              have e1 : dkCreate st n.data.toList = ({ st with left := dec st.left, fs := fsPut st.fs ⟨n.data.toList, [], []⟩ }, 0) := by unfold dkCreate doing; rw [HD.out, HM.out, HS.out, if_neg hl, if_neg H0.out]; rfl
              rw [e1]
              exact ⟨rfl, H7.out, (Fr.pure HB.out).trans F7.out⟩
  · have HD := Lib.hid hd
    clear hd
    go_enter Tryz.func21, Tryz.ntmps21
    go_wp2_with fail
    refine (dk_down _ p b st H1.out).mono ?_
    rintro e w1 ⟨rfl, rfl⟩
    rw [HD.out]
    go_wp2
    go_ret
    have e1 : dkCreate st n.data.toList = (st, 45) := by unfold dkCreate; rw [HD.out]; rfl
    rw [e1]
    exact ⟨rfl, H1.out, Fr.pure (box2_below w _ _)⟩

end Go.Proofs.YteikdcobpfohcaaGreatDoor

/- The walks of Delete, Sync, Read, Cut, Up. -/
namespace Go.Proofs.YteikdcobpfohcaaGreatDoor
open Go.RowKit Go.Maps

set_option maxRecDepth 100000 in
set_option maxHeartbeats 1000000 in
theorem delete_act (w : World) (q r p b : Nat) (st : DkSt) (n : ByteArray) (hc : Capt w q r p n) (h : IsDk w p b st) (hn : n.size ≤ maxLen) :
    Calls Tryz.prog 63 #[.pointer (some ⟨q, 0, none⟩), .pointer (some ⟨r, 0, none⟩)] w fun e w' => ActPost p b { st with fs := fsDel st.fs n.data.toList } w e w' := by
  have H := Lib.hid h
  have hx1 := hc.cq
  have hx2 := hc.cr
  obtain ⟨c0, c1, c2, c3⟩ := h.cs
  have HK := Lib.hid (WideMaps.keyOf_string_mk Tryz.underlying9 hn)
  have HE := Lib.hid (show FsKeep (fsDel st.fs n.data.toList) ∧ (used (fsDel st.fs n.data.toList) : Int) ≤ st.cap from ⟨h.ok.fs.keep.del _, by have := h.ok.fits; have := used_del st.fs n.data.toList; omega⟩)
  clear hc h hn
  obtain ⟨w1, hrun, hown1, hturn1⟩ := H.out.drew.own.drop (t := 88) (e := 93) Tryz.strKey Tryz.underlying88 (key := .string n) HK.out 0
  have HO := Lib.hid (H.out.drew.turned (fs' := fsDel st.fs n.data.toList) (by rw [← del_fs]; exact hown1) hturn1 HE.out.1 HE.out.2)
  have HT := Lib.hid (turned_fr hturn1)
  clear hown1 hturn1
  go_enter Tryz.func63, Tryz.ntmps63
  go_region
  go_wp2
  go_end0
  exact ⟨rfl, HO.out, ((Fr.refl _ w).drew.trans HT.out).toD⟩

theorem find_dark {w w1 : World} {st : DkSt} {n : List UInt8} {e : Ending} (h : FindPost w st n e w1) (hd : st.dark = true) : Below w.heap.size w w1 ∧ e = .returned (.tuple #[.agg #[.string ⟨#[]⟩, .string ⟨#[]⟩], .int .i64 45]) := by
  obtain ⟨h1, a, b, h2⟩ := h
  rw [if_pos hd] at h2
  obtain ⟨ha, hb, rfl⟩ := h2
  have ea : a = ⟨#[]⟩ := by cases a with | mk d => simp at ha; rw [ha]
  have eb : b = ⟨#[]⟩ := by cases b with | mk d => simp at hb; rw [hb]
  rw [ea, eb]; exact ⟨h1, rfl⟩
theorem find_none {w w1 : World} {st : DkSt} {n : List UInt8} {e : Ending} (h : FindPost w st n e w1) (hd : st.dark = false) (hg : fsGet st.fs n = none) : Below w.heap.size w w1 ∧ e = .returned (.tuple #[.agg #[.string ⟨#[]⟩, .string ⟨#[]⟩], .int .i64 5]) := by
  obtain ⟨h1, a, b, h2⟩ := h
  rw [if_neg (by rw [hd]; simp), hg] at h2
  obtain ⟨ha, hb, rfl⟩ := h2
  have ea : a = ⟨#[]⟩ := by cases a with | mk d => simp at ha; rw [ha]
  have eb : b = ⟨#[]⟩ := by cases b with | mk d => simp at hb; rw [hb]
  rw [ea, eb]; exact ⟨h1, rfl⟩
theorem find_some {w w1 : World} {st : DkSt} {n : List UInt8} {e : Ending} (h : FindPost w st n e w1) (hd : st.dark = false) {f : FileS} (hg : fsGet st.fs n = some f) : Below w.heap.size w w1 ∧ ∃ a b : ByteArray, a.data.toList = f.firm ∧ b.data.toList = f.pend ∧ e = .returned (.tuple #[.agg #[.string a, .string b], .int .i64 0]) := by
  obtain ⟨h1, a, b, h2⟩ := h
  rw [if_neg (by rw [hd]; simp), hg] at h2
  exact ⟨h1, a, b, h2.1, h2.2.1, h2.2.2⟩

theorem box2_fr (w : World) (o1 o2 : Obj) {w1 : World} (h : Below (((w.alloc o1).alloc o2).heap.size) ((w.alloc o1).alloc o2) w1) : Below w.heap.size w w1 := (box2_below w o1 o2).trans (h.mono (by simp; omega))

set_option maxRecDepth 100000 in
set_option maxHeartbeats 1500000 in
theorem dk_delete (w : World) (p b : Nat) (st : DkSt) (h : IsDk w p b st) (n : ByteArray) (hn : n.size ≤ maxLen) :
    Calls Tryz.prog 31 #[.pointer (some ⟨p, 0, none⟩), .string n] w fun e w' => OpPost p b (dkDelete st n.data.toList) w e w' := by
  have hmf : ∀ (fn : Fn) (first cap : Array Value) (w : World), (Instr.makeFunc fn first cap).run Tryz.prog w = .ok (.func fn first cap) w := fun _ _ _ _ => rfl
  have hp := h.lt
  have hbl := h.own.lt
  have H := Lib.hid h
  have H1 := Lib.hid (h.pure (box2_below w (.cells #[.pointer (some ⟨p, 0, none⟩)] 48) (.cells #[.string n] 9)))
  clear h
  go_enter Tryz.func31, Tryz.ntmps31
  go_wp2_with fail
  refine (dk_find _ p b st H1.out n hn).mono ?_
  intro e w1 hf
  cases hd : st.dark
  · cases hg : fsGet st.fs n.data.toList with
    | none =>
      obtain ⟨hb1, rfl⟩ := find_none hf hd hg
      have HD := Lib.hid hd
      have HG := Lib.hid hg
      have hb6 := Lib.hid (((box2_fr w _ _ hb1).alloc (by have := hb1.size; simp at this; omega) (.cells #[.string ⟨#[]⟩, .string ⟨#[]⟩] 93)))
      clear hd hg hf hb1
      go_wp2
      go_ret
      have e1 : dkDelete st n.data.toList = (st, 5) := by unfold dkDelete; rw [HD.out, HG.out]; rfl
      rw [e1]
      exact ⟨rfl, H.out.pure hb6.out, Fr.pure hb6.out⟩
    | some f =>
      obtain ⟨hb1, f1, f2, hf1, hf2, rfl⟩ := find_some hf hd hg
      have HD := Lib.hid hd
      have HG := Lib.hid hg
      have hs1 := hb1.size
      simp at hs1
      have HB := Lib.hid (((box2_fr w _ _ hb1).alloc (by omega) (.cells #[.string f1, .string f2] 93)))
      have HC := Lib.hid (box2_capt (S := fun _ => False) (((Fr.refl _ _).andPure hb1).alloc (.cells #[.string f1, .string f2] 93)) (fun hf => hf) (fun hf => hf))
      clear hd hg hf hb1
      have hx1 := HC.out.cq
      have hx2 := HC.out.cr
      go_wp2_with fail
      refine (dk_do 63 _ _ p b st (H.out.pure HB.out) (enters_of Tryz.func63 (by kernel_rfl) rfl) (fun w2 => IsDk w2 p b { st with left := dec st.left, fs := fsDel st.fs n.data.toList } ∧ DFr p b (w1.alloc (.cells #[.string f1, .string f2] 93)) w2) (fun _ w3 hf1 hs1 hd1 => (delete_act w3 _ _ p b { st with left := dec st.left } n (HC.out.fr hf1 (by omega) (by omega)) hd1 hn).mono (fun e w2 h2 => ⟨h2.1, h2.2.1, hf1.toD1.trans h2.2.2⟩))).mono ?_
      rintro e w7 (⟨h0, rfl, hf7, hd7⟩ | ⟨h0, rfl, hd7, hf7⟩)
      · have H7 := Lib.hid hd7
        have F7 := Lib.hid hf7
        have H0 := Lib.hid h0
        clear hd7 hf7 h0
        go_wp2
        go_ret
        have e1 : dkDelete st n.data.toList = ({ st with dark := true }, 45) := by unfold dkDelete doing; rw [HD.out, HG.out, if_pos H0.out]; rfl
        rw [e1]
        exact ⟨rfl, H7.out, (Fr.pure HB.out).trans F7.out.toD1⟩
      · have H7 := Lib.hid hd7
        have F7 := Lib.hid hf7
        have H0 := Lib.hid h0
        clear hd7 hf7 h0
        go_wp2
        go_ret
        have e1 : dkDelete st n.data.toList = ({ st with left := dec st.left, fs := fsDel st.fs n.data.toList }, 0) := by unfold dkDelete doing; rw [HD.out, HG.out, if_neg H0.out]; rfl
        rw [e1]
        exact ⟨rfl, H7.out, (Fr.pure HB.out).trans F7.out⟩
  · obtain ⟨hb1, rfl⟩ := find_dark hf hd
    have HD := Lib.hid hd
    have hb6 := Lib.hid (((box2_fr w _ _ hb1).alloc (by have := hb1.size; simp at this; omega) (.cells #[.string ⟨#[]⟩, .string ⟨#[]⟩] 93)))
    clear hd hf hb1
    go_wp2
    go_ret
    have e1 : dkDelete st n.data.toList = (st, 45) := by unfold dkDelete; rw [HD.out]; rfl
    rw [e1]
    exact ⟨rfl, H.out.pure hb6.out, Fr.pure hb6.out⟩

def dkSync (st : DkSt) (n : List UInt8) : DkSt × Int :=
  if st.dark then (st, 45) else match fsGet st.fs n with | none => (st, 5) | some f => doing st (fsPut st.fs ⟨n, f.firm ++ f.pend, []⟩)

/-- A file's box. -/
structure BoxAt (w : World) (g : Nat) (f1 f2 : ByteArray) : Prop where
  c0 : w.cell? ⟨g, 0, none⟩ = some (.string f1)
  c1 : w.cell? ⟨g, 1, none⟩ = some (.string f2)
theorem BoxAt.fr {S : Nat → Prop} {w w' : World} {g : Nat} {f1 f2 : ByteArray} (h : BoxAt w g f1 f2) (hf : Fr S w w') (h1 : ¬ S g) : BoxAt w' g f1 f2 := ⟨hf.cellAt h.c0 h1, hf.cellAt h.c1 h1⟩
theorem box_at {w w' : World} {f1 f2 : ByteArray} {t : TypeId} (hf : Fr (fun _ => False) (w.alloc (.cells #[.string f1, .string f2] t)) w') : BoxAt w' w.heap.size f1 f2 :=
  ⟨hf.cellAt (by rw [World.cell?_alloc_at _ _ _ _ rfl]; rfl) (fun h => h), hf.cellAt (by rw [World.cell?_alloc_at _ _ _ _ rfl]; rfl) (fun h => h)⟩

set_option maxRecDepth 100000 in
set_option maxHeartbeats 1000000 in
theorem sync_act (w : World) (g q r p b : Nat) (st : DkSt) (n f1 f2 : ByteArray) (hc : Capt w q r p n) (hx : BoxAt w g f1 f2) (h : IsDk w p b st) (hn : n.size ≤ maxLen)
    (f : FileS) (hg : fsGet st.fs n.data.toList = some f) (hf1 : f1.data.toList = f.firm) (hf2 : f2.data.toList = f.pend) :
    Calls Tryz.prog 72 #[.pointer (some ⟨g, 0, none⟩), .pointer (some ⟨q, 0, none⟩), .pointer (some ⟨r, 0, none⟩)] w fun e w' => ActPost p b { st with fs := fsPut st.fs ⟨n.data.toList, f.firm ++ f.pend, []⟩ } w e w' := by
  have H := Lib.hid h
  have hx1 := hc.cq
  have hx2 := hc.cr
  have hx3 := hx.c0
  have hx4 := hx.c1
  obtain ⟨c0, c1, c2, c3⟩ := h.cs
  have hsm := h.ok.fs.small f (get_name hg).2
  have hsz : f1.size + f2.size ≤ 9223372036854775807 := by rw [size_of_list hf1, size_of_list hf2]; omega
  have HK := Lib.hid (WideMaps.keyOf_string_mk Tryz.underlying9 hn)
  have HF := Lib.hid h.fewer
  have hud := used_del_some (fs_apart h.ok.fs) hg
  have HE := Lib.hid (show FsKeep (fsPut st.fs ⟨n.data.toList, f.firm ++ f.pend, []⟩) ∧ (used (fsPut st.fs ⟨n.data.toList, f.firm ++ f.pend, []⟩) : Int) ≤ st.cap from
    ⟨h.ok.fs.keep.put (by show (fsDel st.fs n.data.toList).length < 64; have := h.ok.fs.few; omega) (by simp; omega) (by show n.data.toList.length ≤ 24; rw [← (get_name hg).1]; exact h.ok.fs.names f (get_name hg).2), by rw [used_put]; have := h.ok.fits; simp only [List.length_append, List.length_nil]; show (((f.firm.length + f.pend.length + 0) + used (fsDel st.fs n.data.toList) : Nat) : Int) ≤ st.cap; omega⟩)
  obtain ⟨w1, hrun, hown1, hturn1⟩ := H.out.drew.own.store (t := 88) (e := 93) Tryz.strKey Tryz.underlying88 HF.out (key := .string n) (val := .agg #[.string (f1 ++ f2), .string ⟨#[]⟩]) HK.out (fileElem_mk _ _)
  have HO := Lib.hid (H.out.drew.turned (fs' := fsPut st.fs ⟨n.data.toList, f.firm ++ f.pend, []⟩) (by rw [← put_fs]; show w1.ownsMap Tryz.prog 9 fileElem b _ ((fsD st.fs).put (.string n.data.toList) (.agg [.lit (.string (f.firm ++ f.pend)), .lit (.string [])])); rw [← hf1, ← hf2]; have := hown1; simpa using this) hturn1 HE.out.1 HE.out.2)
  have HT := Lib.hid (turned_fr hturn1)
  clear hown1 hturn1 hc h hn hud hsm hg hf1 hf2 hx
  go_enter Tryz.func72, Tryz.ntmps72
  go_region
  go_wp2
  go_end0
  exact ⟨rfl, HO.out, ((Fr.refl _ w).drew.trans HT.out).toD⟩

set_option maxRecDepth 100000 in
set_option maxHeartbeats 1500000 in
theorem dk_sync (w : World) (p b : Nat) (st : DkSt) (h : IsDk w p b st) (n : ByteArray) (hn : n.size ≤ maxLen) :
    Calls Tryz.prog 35 #[.pointer (some ⟨p, 0, none⟩), .string n] w fun e w' => OpPost p b (dkSync st n.data.toList) w e w' := by
  have hmf : ∀ (fn : Fn) (first cap : Array Value) (w : World), (Instr.makeFunc fn first cap).run Tryz.prog w = .ok (.func fn first cap) w := fun _ _ _ _ => rfl
  have hp := h.lt
  have hbl := h.own.lt
  have H := Lib.hid h
  have H1 := Lib.hid (h.pure (box2_below w (.cells #[.pointer (some ⟨p, 0, none⟩)] 48) (.cells #[.string n] 9)))
  clear h
  go_enter Tryz.func35, Tryz.ntmps35
  go_wp2_with fail
  refine (dk_find _ p b st H1.out n hn).mono ?_
  intro e w1 hf
  cases hd : st.dark
  · cases hg : fsGet st.fs n.data.toList with
    | none =>
      obtain ⟨hb1, rfl⟩ := find_none hf hd hg
      have HD := Lib.hid hd
      have HG := Lib.hid hg
      have hb6 := Lib.hid (((box2_fr w _ _ hb1).alloc (by have := hb1.size; simp at this; omega) (.cells #[.string ⟨#[]⟩, .string ⟨#[]⟩] 93)))
      clear hd hg hf hb1
      go_wp2
      go_ret
      have e1 : dkSync st n.data.toList = (st, 5) := by unfold dkSync; rw [HD.out, HG.out]; rfl
      rw [e1]
      exact ⟨rfl, H.out.pure hb6.out, Fr.pure hb6.out⟩
    | some f =>
      obtain ⟨hb1, f1, f2, hf1, hf2, rfl⟩ := find_some hf hd hg
      have HD := Lib.hid hd
      have HG := Lib.hid hg
      have hs1 := hb1.size
      simp at hs1
      have HB := Lib.hid (((box2_fr w _ _ hb1).alloc (by omega) (.cells #[.string f1, .string f2] 93)))
      have HC := Lib.hid (box2_capt (S := fun _ => False) (((Fr.refl _ _).andPure hb1).alloc (.cells #[.string f1, .string f2] 93)) (fun hf => hf) (fun hf => hf))
      have HF := Lib.hid (And.intro hf1 hf2)
      clear hd hg hf hb1 hf1 hf2
      have HX := Lib.hid (box_at (Fr.refl (fun _ => False) _) : BoxAt (w1.alloc (.cells #[.string f1, .string f2] 93)) w1.heap.size f1 f2)
      have hlt1 := H1.out.lt
      simp at hlt1
      have hx1 := HC.out.cq
      have hx2 := HC.out.cr
      go_wp2_with fail
      refine (dk_do 72 _ _ p b st (H.out.pure HB.out) (enters_of Tryz.func72 (by kernel_rfl) rfl) (fun w2 => IsDk w2 p b { st with left := dec st.left, fs := fsPut st.fs ⟨n.data.toList, f.firm ++ f.pend, []⟩ } ∧ DFr p b (w1.alloc (.cells #[.string f1, .string f2] 93)) w2) (fun _ w3 hf1 hs1 hd1 => (sync_act w3 _ _ _ p b { st with left := dec st.left } n f1 f2 (HC.out.fr hf1 (by omega) (by omega)) (HX.out.fr hf1 (by omega)) hd1 hn f HG.out HF.out.1 HF.out.2).mono (fun e w2 h2 => ⟨h2.1, h2.2.1, hf1.toD1.trans h2.2.2⟩))).mono ?_
      rintro e w7 (⟨h0, rfl, hf7, hd7⟩ | ⟨h0, rfl, hd7, hf7⟩)
      · have H7 := Lib.hid hd7
        have F7 := Lib.hid hf7
        have H0 := Lib.hid h0
        clear hd7 hf7 h0
        go_wp2
        go_ret
        have e1 : dkSync st n.data.toList = ({ st with dark := true }, 45) := by unfold dkSync; rw [if_neg (by rw [HD.out]; simp), HG.out]; exact if_pos H0.out
        rw [e1]
        exact ⟨rfl, H7.out, (Fr.pure HB.out).trans F7.out.toD1⟩
      · have H7 := Lib.hid hd7
        have F7 := Lib.hid hf7
        have H0 := Lib.hid h0
        clear hd7 hf7 h0
        go_wp2
        go_ret
        have e1 : dkSync st n.data.toList = ({ st with left := dec st.left, fs := fsPut st.fs ⟨n.data.toList, f.firm ++ f.pend, []⟩ }, 0) := by unfold dkSync; rw [if_neg (by rw [HD.out]; simp), HG.out]; exact if_neg H0.out
        rw [e1]
        exact ⟨rfl, H7.out, (Fr.pure HB.out).trans F7.out⟩
  · obtain ⟨hb1, rfl⟩ := find_dark hf hd
    have HD := Lib.hid hd
    have hb6 := Lib.hid (((box2_fr w _ _ hb1).alloc (by have := hb1.size; simp at this; omega) (.cells #[.string ⟨#[]⟩, .string ⟨#[]⟩] 93)))
    clear hd hf hb1
    go_wp2
    go_ret
    have e1 : dkSync st n.data.toList = (st, 45) := by unfold dkSync; rw [HD.out]; rfl
    rw [e1]
    exact ⟨rfl, H.out.pure hb6.out, Fr.pure hb6.out⟩

end Go.Proofs.YteikdcobpfohcaaGreatDoor

/- The walks of Read, Cut, Up, Rename, Append. -/
namespace Go.Proofs.YteikdcobpfohcaaGreatDoor
open Go.RowKit Go.Maps

theorem bytes_append (a b : ByteArray) : (a ++ b).data.toList = a.data.toList ++ b.data.toList := by simp

def dkRead (st : DkSt) (n : List UInt8) : List UInt8 × Int :=
  if st.dark then ([], 45) else match fsGet st.fs n with | none => ([], 5) | some f => (f.firm ++ f.pend, 0)
def TextPost (r : List UInt8 × Int) (w : World) (e : Ending) (w' : World) : Prop := (∃ s : ByteArray, s.data.toList = r.1 ∧ e = .returned (.tuple #[.string s, .int .i64 r.2])) ∧ Below w.heap.size w w'

set_option maxRecDepth 100000 in
set_option maxHeartbeats 1500000 in
theorem dk_read (w : World) (p b : Nat) (st : DkSt) (h : IsDk w p b st) (n : ByteArray) (hn : n.size ≤ maxLen) :
    Calls Tryz.prog 28 #[.pointer (some ⟨p, 0, none⟩), .string n] w fun e w' => TextPost (dkRead st n.data.toList) w e w' := by
  have H := Lib.hid h
  clear h
  go_enter Tryz.func28, Tryz.ntmps28
  go_wp2_with fail
  refine (dk_find _ p b st H.out n hn).mono ?_
  intro e w1 hf
  cases hd : st.dark
  · cases hg : fsGet st.fs n.data.toList with
    | none =>
      obtain ⟨hb1, rfl⟩ := find_none hf hd hg
      have HD := Lib.hid hd
      have HG := Lib.hid hg
      have HB := Lib.hid (hb1.alloc hb1.size (.cells #[.string ⟨#[]⟩, .string ⟨#[]⟩] 93))
      clear hd hg hf hb1
      go_wp2
      refine bodyPost_ret (v := .tuple #[.string ⟨#[]⟩, .int .i64 5]) (by simp [results, Tryz.results28, go_sem]; rfl) rfl ⟨⟨⟨#[]⟩, ?_, ?_⟩, HB.out⟩
      · unfold dkRead; rw [if_neg (by rw [HD.out]; simp), HG.out]
      · unfold dkRead; rw [if_neg (by rw [HD.out]; simp), HG.out]
    | some f =>
      obtain ⟨hb1, f1, f2, hf1, hf2, rfl⟩ := find_some hf hd hg
      have HD := Lib.hid hd
      have HG := Lib.hid hg
      have HF := Lib.hid (And.intro hf1 hf2)
      have hsm := H.out.ok.fs.small f (get_name hg).2
      have hsz : f1.size + f2.size ≤ 9223372036854775807 := by rw [size_of_list hf1, size_of_list hf2]; omega
      have HB := Lib.hid (hb1.alloc hb1.size (.cells #[.string f1, .string f2] 93))
      clear hd hg hf hb1 hf1 hf2 hsm
      go_wp2
      refine bodyPost_ret (v := .tuple #[.string (f1 ++ f2), .int .i64 0]) (by simp [results, Tryz.results28, go_sem]) rfl ⟨⟨f1 ++ f2, ?_, ?_⟩, HB.out⟩
      · unfold dkRead; rw [if_neg (by rw [HD.out]; simp), HG.out]; show (f1 ++ f2).data.toList = f.firm ++ f.pend; rw [← HF.out.1, ← HF.out.2]; exact bytes_append f1 f2
      · unfold dkRead; rw [if_neg (by rw [HD.out]; simp), HG.out]
  · obtain ⟨hb1, rfl⟩ := find_dark hf hd
    have HD := Lib.hid hd
    have HB := Lib.hid (hb1.alloc hb1.size (.cells #[.string ⟨#[]⟩, .string ⟨#[]⟩] 93))
    clear hd hf hb1
    go_wp2
    refine bodyPost_ret (v := .tuple #[.string ⟨#[]⟩, .int .i64 45]) (by simp [results, Tryz.results28, go_sem]; rfl) rfl ⟨⟨⟨#[]⟩, ?_, ?_⟩, HB.out⟩
    · unfold dkRead; rw [if_pos HD.out]
    · unfold dkRead; rw [if_pos HD.out]

def dkCut (st : DkSt) (n : Int) : DkSt × Int := if st.dark then (st, 45) else if n < 0 then (st, 1) else ({ st with left := n }, 0)

set_option maxRecDepth 100000 in
set_option maxHeartbeats 1500000 in
theorem dk_cut (w : World) (p b : Nat) (st : DkSt) (h : IsDk w p b st) (n : Int) (hn : -9223372036854775808 ≤ n) (hn1 : n ≤ 9223372036854775807) :
    Calls Tryz.prog 22 #[.pointer (some ⟨p, 0, none⟩), .int .i64 n] w fun e w' => OpPost p b (dkCut st n) w e w' := by
  have H := Lib.hid h
  have hp := h.lt
  obtain ⟨c0, c1, c2, c3⟩ := h.cs
  have z2 := h.fz 2
  clear h
  cases hd : st.dark
  · have HD := Lib.hid hd
    clear hd
    by_cases h0 : n < 0
    · go_enter Tryz.func22, Tryz.ntmps22
      go_wp2_with fail
      refine (dk_down _ p b st H.out).mono ?_
      rintro e w1 ⟨rfl, rfl⟩
      rw [HD.out]
      go_wp2
      go_ret
      have e1 : dkCut st n = (st, 1) := by unfold dkCut; rw [if_neg (by rw [HD.out]; simp), if_pos h0]
      rw [e1]
      exact ⟨rfl, H.out, Fr.refl _ _⟩
    · have HL := Lib.hid (H.out.setLeft n (by omega) hn1)
      go_enter Tryz.func22, Tryz.ntmps22
      go_wp2_with fail
      refine (dk_down _ p b st H.out).mono ?_
      rintro e w1 ⟨rfl, rfl⟩
      rw [HD.out]
      go_wp2
      go_ret
      have e1 : dkCut st n = ({ st with left := n }, 0) := by unfold dkCut; rw [if_neg (by rw [HD.out]; simp), if_neg (by omega)]
      rw [e1]
      exact ⟨rfl, HL.out, (setCell_fr ⟨p, 2, none⟩ _).toD1⟩
  · have HD := Lib.hid hd
    clear hd
    go_enter Tryz.func22, Tryz.ntmps22
    go_wp2_with fail
    refine (dk_down _ p b st H.out).mono ?_
    rintro e w1 ⟨rfl, rfl⟩
    rw [HD.out]
    go_wp2
    go_ret
    have e1 : dkCut st n = (st, 45) := by unfold dkCut; rw [if_pos HD.out]
    rw [e1]
    exact ⟨rfl, H.out, Fr.refl _ _⟩

/-! ### Rename -/
def dkRename (st : DkSt) (a c : List UInt8) : DkSt × Int :=
  if st.dark then (st, 45) else match fsGet st.fs a with
    | none => (st, 5)
    | some f => if !mayName c then (st, 4) else if a = c then (st, 1) else doing st (fsPut (fsDel st.fs a) ⟨c, f.firm, f.pend⟩)

theorem IsDk.off {w : World} {p b : Nat} {st : DkSt} (h : IsDk w p b st) {q o : Nat} {v : Value} (hc : w.cell? ⟨q, o, none⟩ = some v) : q ≠ b := by
  intro e
  obtain ⟨es, clock, hb, _⟩ := h.own
  subst e
  unfold World.cell? at hc
  rw [hb] at hc
  simp at hc

set_option maxRecDepth 100000 in
set_option maxHeartbeats 1000000 in
theorem rename_act (w : World) (q r g s p b : Nat) (st : DkSt) (n m f1 f2 : ByteArray) (hc : Capt w q r p n) (hm : w.cell? ⟨s, 0, none⟩ = some (.string m)) (hx : BoxAt w g f1 f2) (h : IsDk w p b st) (hn : n.size ≤ maxLen) (hml : m.size ≤ 24)
    (f : FileS) (hg : fsGet st.fs n.data.toList = some f) (hf1 : f1.data.toList = f.firm) (hf2 : f2.data.toList = f.pend) :
    Calls Tryz.prog 73 #[.pointer (some ⟨q, 0, none⟩), .pointer (some ⟨r, 0, none⟩), .pointer (some ⟨g, 0, none⟩), .pointer (some ⟨s, 0, none⟩)] w fun e w' => ActPost p b { st with fs := fsPut (fsDel st.fs n.data.toList) ⟨m.data.toList, f.firm, f.pend⟩ } w e w' := by
  have H := Lib.hid h
  have hx1 := hc.cq
  have hx2 := hc.cr
  obtain ⟨c0, c1, c2, c3⟩ := h.cs
  have hsm := h.ok.fs.small f (get_name hg).2
  have HK := Lib.hid (WideMaps.keyOf_string_mk Tryz.underlying9 hn)
  have HKm := Lib.hid (WideMaps.keyOf_string_mk Tryz.underlying9 (Nat.le_trans hml (by unfold maxLen; omega) : m.size ≤ maxLen))
  have hud := used_del_some (fs_apart h.ok.fs) hg
  have hfit := h.ok.fits
  have HE1 := Lib.hid (show FsKeep (fsDel st.fs n.data.toList) ∧ (used (fsDel st.fs n.data.toList) : Int) ≤ st.cap from ⟨h.ok.fs.keep.del _, by omega⟩)
  have HE := Lib.hid (show FsKeep (fsPut (fsDel st.fs n.data.toList) ⟨m.data.toList, f.firm, f.pend⟩) ∧ (used (fsPut (fsDel st.fs n.data.toList) ⟨m.data.toList, f.firm, f.pend⟩) : Int) ≤ st.cap from
    ⟨HE1.out.1.put (by show (fsDel (fsDel st.fs n.data.toList) m.data.toList).length < 64; have := h.ok.fs.few; have := length_del (fsDel st.fs n.data.toList) m.data.toList; omega) hsm (by rw [size_toList]; exact hml), by rw [used_put]; show (((f.firm.length + f.pend.length) + used (fsDel (fsDel st.fs n.data.toList) m.data.toList) : Nat) : Int) ≤ st.cap; have := used_del (fsDel st.fs n.data.toList) m.data.toList; omega⟩)
  have hqb := h.off hc.cq
  have hrb := h.off hc.cr
  have hgb := h.off hx.c0
  have hsb := h.off hm
  obtain ⟨w1, hrun, hown1, hturn1⟩ := H.out.drew.own.drop (t := 88) (e := 93) Tryz.strKey Tryz.underlying88 (key := .string n) HK.out 0
  have HO := Lib.hid (H.out.drew.turned (fs' := fsDel st.fs n.data.toList) (by rw [← del_fs]; exact hown1) hturn1 HE1.out.1 HE1.out.2)
  have HT := Lib.hid (turned_fr hturn1)
  have hy1 := HT.out.cellAt (show w.drew.cell? _ = _ from hc.cq) hqb
  have hy3 := HT.out.cellAt (show w.drew.cell? _ = _ from hm) hsb
  have hy4 := HT.out.cellAt (show w.drew.cell? _ = _ from hx.c0) hgb
  have hy5 := HT.out.cellAt (show w.drew.cell? _ = _ from hx.c1) hgb
  obtain ⟨e0, e1, e2, e3⟩ := HO.out.cs
  clear hown1 hturn1
  obtain ⟨w2, hrun2, hown2, hturn2⟩ := HO.out.drew.own.store (t := 88) (e := 93) Tryz.strKey Tryz.underlying88 HO.out.fewer (key := .string m) (val := .agg #[.string f1, .string f2]) HKm.out (fileElem_mk _ _)
  have HO2 := Lib.hid (HO.out.drew.turned (fs' := fsPut (fsDel st.fs n.data.toList) ⟨m.data.toList, f.firm, f.pend⟩) (by rw [← put_fs]; show w2.ownsMap Tryz.prog 9 fileElem b _ ((fsD (fsDel st.fs n.data.toList)).put (.string m.data.toList) (.agg [.lit (.string f.firm), .lit (.string f.pend)])); rw [← hf1, ← hf2]; exact hown2) hturn2 HE.out.1 HE.out.2)
  have HT2 := Lib.hid (turned_fr hturn2)
  clear hown2 hturn2 hc h hn hud hsm hg hf1 hf2 hx hm hml hqb hrb hgb hsb hfit
  go_enter Tryz.func73, Tryz.ntmps73
  go_wp2
  go_region
  go_wp2
  go_region
  go_wp2
  go_end0
  exact ⟨rfl, HO2.out, ((((Fr.refl _ w).drew.trans HT.out).drew).trans HT2.out).toD⟩

end Go.Proofs.YteikdcobpfohcaaGreatDoor
