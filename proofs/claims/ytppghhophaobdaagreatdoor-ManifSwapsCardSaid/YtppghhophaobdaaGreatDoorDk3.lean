/- The walks of Create and Delete, each with what it does. -/
import Derived.Test.YtppghhophaobdaaGreatDoorFsl
namespace Go.Proofs.YtppghhophaobdaaGreatDoor
open Go.RowKit Go.Maps

/-- What an op does to the files, if it may. -/
def doing (st : DkSt) (fs' : Fs) : DkSt × Int := if st.left = 0 then ({ st with dark := true }, 45) else ({ st with left := dec st.left, fs := fs' }, 0)

/-- What an op leaves, and tells. -/
def OpPost (p b : Nat) (r : DkSt × Int) (w : World) (e : Ending) (w' : World) : Prop := e = .returned (.int .i64 r.2) ∧ IsDk w' p b r.1 ∧ DFr p b w w'
def ActPost (p b : Nat) (st : DkSt) (w : World) (e : Ending) (w' : World) : Prop := e = .returned (.tuple #[]) ∧ IsDk w' p b st ∧ DFr p b w w'

def dkCreate (st : DkSt) (n : List UInt8) : DkSt × Int :=
  if st.dark then (st, 45) else if !mayName n then (st, 4) else if (fsGet st.fs n).isSome then (st, 6) else if 64 ≤ st.fs.length then (st, 44) else doing st (fsPut st.fs ⟨n, [], []⟩)
def dkDelete (st : DkSt) (n : List UInt8) : DkSt × Int :=
  if st.dark then (st, 45) else match fsGet st.fs n with | none => (st, 5) | some _ => doing st (fsDel st.fs n)

theorem mayName_len {n : List UInt8} (h : mayName n = true) : n.length ≤ 24 := by
  unfold mayName at h; simp at h; exact h.1.2

/-- The two captured variables: the disk, the name. -/
structure Capt (w : World) (q r p : Nat) (n : ByteArray) : Prop where
  cq : w.cell? ⟨q, 0, none⟩ = some (.pointer (some ⟨p, 0, none⟩))
  cr : w.cell? ⟨r, 0, none⟩ = some (.string n)

theorem IsDk.drew {w : World} {p b : Nat} {st : DkSt} (h : IsDk w p b st) : IsDk w.drew p b st := ⟨h.cell, h.own, h.ok⟩
set_option maxRecDepth 100000 in
set_option maxHeartbeats 1000000 in
theorem create_act (w : World) (q r p b : Nat) (st : DkSt) (n : ByteArray) (hc : Capt w q r p n) (h : IsDk w p b st) (hn : n.size ≤ 24) (hl : st.fs.length < 64) (hg : fsGet st.fs n.data.toList = none) :
    Calls Tryz.prog 105 #[.pointer (some ⟨q, 0, none⟩), .pointer (some ⟨r, 0, none⟩)] w fun e w' => ActPost p b { st with fs := fsPut st.fs ⟨n.data.toList, [], []⟩ } w e w' := by
  have H := Lib.hid h
  have hx1 := hc.cq
  have hx2 := hc.cr
  obtain ⟨c0, c1, c2, c3⟩ := h.cs
  have HK := Lib.hid (WideMaps.keyOf_string_mk Tryz.underlying9 (Nat.le_trans hn (by unfold maxLen; omega) : n.size ≤ maxLen))
  have HF := Lib.hid h.fewer
  have HE := Lib.hid (show FsKeep (fsPut st.fs ⟨n.data.toList, [], []⟩) ∧ (used (fsPut st.fs ⟨n.data.toList, [], []⟩) : Int) ≤ st.cap from ⟨h.ok.fs.keep.put (by show (fsDel st.fs n.data.toList).length < 64; rw [del_none hg]; exact hl) (by simp) (by rw [size_toList]; exact hn), by rw [used_put, del_none hg]; have := h.ok.fits; simpa using this⟩)
  clear hc h hn hl hg
  obtain ⟨w1, hrun, hown1, hturn1⟩ := H.out.drew.own.store (t := 108) (e := 113) Tryz.strKey Tryz.underlying108 HF.out (key := .string n) (val := .agg #[.string ⟨#[]⟩, .string ⟨#[]⟩]) HK.out (fileElem_mk _ _)
  have HO := Lib.hid (H.out.drew.turned (fs' := fsPut st.fs ⟨n.data.toList, [], []⟩) (by rw [← put_fs]; exact hown1) hturn1 HE.out.1 HE.out.2)
  have HT := Lib.hid (turned_fr hturn1)
  clear hown1 hturn1
  go_enter Tryz.func105, Tryz.ntmps105
  go_region
  go_wp2
  go_end0
  exact ⟨rfl, HO.out, ((Fr.refl _ w).drew.trans HT.out).toD⟩

/-- Two boxes more. -/
theorem box2_below (w : World) (o1 o2 : Obj) : Below w.heap.size w ((w.alloc o1).alloc o2) := ((Below.refl _ _).alloc (Nat.le_refl _) _).alloc (by simp) _
theorem box2_capt {w w' : World} {p : Nat} {n : ByteArray} {S : Nat → Prop} {t1 t2 : TypeId} (h : Fr S ((w.alloc (.cells #[.pointer (some ⟨p, 0, none⟩)] t1)).alloc (.cells #[.string n] t2)) w') (h1 : ¬ S w.heap.size) (h2 : ¬ S (w.heap.size + 1)) : Capt w' w.heap.size (w.heap.size + 1) p n :=
  ⟨h.cellAt (by rw [World.cell?_alloc_past _ _ _ (by simp), World.cell?_alloc_at _ _ _ _ rfl]; rfl) h1, h.cellAt (by rw [World.cell?_alloc_at _ _ _ _ (by simp)]; rfl) h2⟩

theorem Capt.fr {S : Nat → Prop} {w w' : World} {q r p : Nat} {n : ByteArray} (h : Capt w q r p n) (hf : Fr S w w') (h1 : ¬ S q) (h2 : ¬ S r) : Capt w' q r p n := ⟨hf.cellAt h.cq h1, hf.cellAt h.cr h2⟩

theorem look_run (w : World) (b : Nat) (fs : Fs) (hown : w.ownsMap Tryz.prog 9 fileElem b fs.length (fsD fs)) (n : ByteArray) (hn : n.size ≤ maxLen) :
    ∃ f1 f2, (Instr.lookup 108 (.map (some b)) (.string n) true).run Tryz.prog w = .ok (.tuple #[.agg #[.string f1, .string f2], .bool (fsGet fs n.data.toList).isSome]) w := by
  obtain ⟨v, ps, hrun, hv⟩ := hown.look_ok Tryz.strKey Tryz.underlying108 (Tryz.zeroFile w) (fileElem_mk _ _) (WideMaps.keyOf_string_mk Tryz.underlying9 hn)
  obtain ⟨f1, f2, rfl, hf⟩ := gotFile_of hv
  rw [has_fs] at hrun
  exact ⟨f1, f2, hrun⟩

set_option maxRecDepth 100000 in
set_option maxHeartbeats 1500000 in
theorem dk_create (w : World) (p b : Nat) (st : DkSt) (h : IsDk w p b st) (n : ByteArray) (hn : n.size ≤ maxLen) :
    Calls Tryz.prog 40 #[.pointer (some ⟨p, 0, none⟩), .string n] w fun e w' => OpPost p b (dkCreate st n.data.toList) w e w' := by
  have hmf : ∀ (fn : Fn) (first cap : Array Value) (w : World), (Instr.makeFunc fn first cap).run Tryz.prog w = .ok (.func fn first cap) w := fun _ _ _ _ => rfl
  have hp := h.lt
  have hbl := h.own.lt
  have HN := Lib.hid (show n.size ≤ 9223372036854775807 from by unfold maxLen at hn; omega)
  have H := Lib.hid h
  have H1 := Lib.hid (h.pure (box2_below w (.cells #[.pointer (some ⟨p, 0, none⟩)] 29) (.cells #[.string n] 9)))
  obtain ⟨c0, c1, c2, c3⟩ := H1.out.cs
  clear h
  cases hd : st.dark
  · have HD := Lib.hid hd
    clear hd
    go_enter Tryz.func40, Tryz.ntmps40
    go_wp2_with fail
    refine (dk_down _ p b st H1.out).mono ?_
    rintro e w1 ⟨rfl, rfl⟩
    rw [HD.out]
    obtain ⟨f1, f2, hr1⟩ := look_run (((w.alloc (.cells #[.pointer (some ⟨p, 0, none⟩)] 29)).alloc (.cells #[.string n] 9)).drew) b st.fs H1.out.drew.own n hn
    obtain ⟨g1, g2, hr2⟩ := look_run ((((w.alloc (.cells #[.pointer (some ⟨p, 0, none⟩)] 29)).alloc (.cells #[.string n] 9)).alloc (.cells #[.string ⟨#[]⟩, .string ⟨#[]⟩] 113)).drew) b st.fs (H1.out.pure ((Below.refl _ _).alloc (Nat.le_refl _) _)).drew.own n hn
    obtain ⟨d0, d1, d2, d3⟩ := (H1.out.pure ((Below.refl _ _).alloc (Nat.le_refl _) (.cells #[.string ⟨#[]⟩, .string ⟨#[]⟩] 113))).cs
    have D0 := Lib.hid d0
    clear d1 d2 d3
    go_wp2
    go_region
    all_goals (go_wp2_with fail)
    all_goals
      refine (mayName_any n _ HN.out).mono ?_
      rintro e w5 ⟨rfl, hb5⟩
      clear hr1 hr2 d0 c0 c1 c2 c3
      have hb6 : Below w.heap.size w w5 := (((box2_below w _ _).alloc (by simp; omega) _).drew).trans (hb5.mono (by simp; omega))
      have H6 := Lib.hid (H.out.pure hb6)
      have HC := Lib.hid (box2_capt (S := fun _ => False) ((((Fr.refl _ _).alloc _).drew).andPure hb5) (fun hf => hf) (fun hf => hf))
      have HB := Lib.hid hb6
      have hs5 : w.heap.size + 1 < w5.heap.size := by have := hb5.size; simp at this; omega
      clear hb5 hb6
      cases hm : mayName n.data.toList
      · have HM := Lib.hid hm
        clear hm
        go_wp2
        go_ret
        have e1 : dkCreate st n.data.toList = (st, 4) := by unfold dkCreate; rw [HD.out, HM.out]; rfl
        rw [e1]
        exact ⟨rfl, H6.out, Fr.pure HB.out⟩
      · have HM := Lib.hid hm
        clear hm
        cases hs : fsGet st.fs n.data.toList with
        | some f =>
          have HS := Lib.hid hs
          clear hs
          go_wp2
          go_ret
          have e1 : dkCreate st n.data.toList = (st, 6) := by unfold dkCreate; rw [HD.out, HM.out, HS.out]; rfl
          rw [e1]
          exact ⟨rfl, H6.out, Fr.pure HB.out⟩
        | none =>
          have HS := Lib.hid hs
          clear hs
          obtain ⟨c0, c1, c2, c3⟩ := H6.out.cs
          have hx1 := HC.out.cq
          have hx2 := HC.out.cr
          by_cases hl : 64 ≤ st.fs.length
          · go_wp2_with (at_len; refine wpList_len_own _ rfl _ 108 rfl 9 113 Tryz.underlying108 fileElem b st.fs.length (fsD st.fs) rfl H6.out.own ?_; rw [size_fs])
            go_ret
            have e1 : dkCreate st n.data.toList = (st, 44) := by unfold dkCreate; rw [HD.out, HM.out, HS.out, if_pos hl]; rfl
            rw [e1]
            exact ⟨rfl, H6.out, Fr.pure HB.out⟩
          · go_wp2_with (first | (at_len; refine wpList_len_own _ rfl _ 108 rfl 9 113 Tryz.underlying108 fileElem b st.fs.length (fsD st.fs) rfl H6.out.own ?_; rw [size_fs]))
            refine (dk_do 105 _ w5 p b st H6.out (enters_of Tryz.func105 (by kernel_rfl) rfl) (fun w2 => IsDk w2 p b { st with left := dec st.left, fs := fsPut st.fs ⟨n.data.toList, [], []⟩ } ∧ DFr p b w5 w2) (fun _ w1 hf1 hs1 hd1 => (create_act w1 _ _ p b { st with left := dec st.left } n (HC.out.fr hf1 (by omega) (by omega)) hd1 (by have := mayName_len HM.out; rw [size_toList] at this; exact this) (by show st.fs.length < 64; omega) HS.out).mono (fun e w2 h2 => ⟨h2.1, h2.2.1, hf1.toD1.trans h2.2.2⟩))).mono ?_
            rintro e w7 (⟨h0, rfl, hf7, hd7⟩ | ⟨h0, rfl, hd7, hf7⟩)
            · have H7 := Lib.hid hd7
              have F7 := Lib.hid hf7
              have H0 := Lib.hid h0
              clear hd7 hf7 h0
              go_wp2
              go_ret
              have e1 : dkCreate st n.data.toList = ({ st with dark := true }, 45) := by unfold dkCreate doing; rw [HD.out, HM.out, HS.out, if_neg hl, if_pos H0.out]; rfl
              rw [e1]
              exact ⟨rfl, H7.out, (Fr.pure HB.out).trans F7.out.toD1⟩
            · have H7 := Lib.hid hd7
              have F7 := Lib.hid hf7
              have H0 := Lib.hid h0
              clear hd7 hf7 h0
              go_wp2
              go_ret
              have e1 : dkCreate st n.data.toList = ({ st with left := dec st.left, fs := fsPut st.fs ⟨n.data.toList, [], []⟩ }, 0) := by unfold dkCreate doing; rw [HD.out, HM.out, HS.out, if_neg hl, if_neg H0.out]; rfl
              rw [e1]
              exact ⟨rfl, H7.out, (Fr.pure HB.out).trans F7.out⟩
  · have HD := Lib.hid hd
    clear hd
    go_enter Tryz.func40, Tryz.ntmps40
    go_wp2_with fail
    refine (dk_down _ p b st H1.out).mono ?_
    rintro e w1 ⟨rfl, rfl⟩
    rw [HD.out]
    go_wp2
    go_ret
    have e1 : dkCreate st n.data.toList = (st, 45) := by unfold dkCreate; rw [HD.out]; rfl
    rw [e1]
    exact ⟨rfl, H1.out, Fr.pure (box2_below w _ _)⟩

end Go.Proofs.YtppghhophaobdaaGreatDoor
